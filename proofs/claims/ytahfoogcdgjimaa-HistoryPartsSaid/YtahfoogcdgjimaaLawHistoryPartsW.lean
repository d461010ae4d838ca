/- The walk of HistoryParts: it returns true. -/
import Derived.Test.YtahfoogcdgjimaaHsP
import Derived.Test.YtahfoogcdgjimaaLawHistoryOrdersW
import Derived.Deep.WholeRow
import Derived.Deep.RegionHeld3
namespace Go.Proofs.Ytahfoogcdgjimaa
set_option linter.unusedVariables false
set_option linter.unusedSimpArgs false
open Go.RowKit

/-- An array of numbers. -/
def Arr (W : World) (g n : Nat) (f : Nat → Int) : Prop := g < W.heap.size ∧ ∀ i, i < n → W.cell? ⟨g, i, none⟩ = some (.int .i64 (f i)) ∧ W.frozen? ⟨g, i, none⟩ = false

theorem Arr.keep {w W : World} {g n : Nat} {f : Nat → Int} (h : Arr w g n f) (hb : Below w.heap.size w W) : Arr W g n f :=
  ⟨Nat.lt_of_lt_of_le h.1 hb.size, fun i hi => ⟨(hb.cell (p := ⟨g, i, none⟩) h.1).trans (h.2 i hi).1, (hb.frozen (p := ⟨g, i, none⟩) h.1).trans (h.2 i hi).2⟩⟩

theorem Arr.congr {w : World} {g n : Nat} {f f' : Nat → Int} (h : Arr w g n f) (e : ∀ i, i < n → f i = f' i) : Arr w g n f' := ⟨h.1, fun i hi => by rw [← e i hi]; exact h.2 i hi⟩

theorem Arr.set {w : World} {g n : Nat} {f : Nat → Int} (h : Arr w g n f) {q : Nat} (hq : q < n) (v : Int) : Arr (w.setCell ⟨g, q, none⟩ (.int .i64 v)) g n (fun i => if i = q then v else f i) :=
  ⟨by simpa using h.1, fun i hi => ⟨by
    by_cases e : i = q
    · subst e
      rw [World.cell?_setCell_same _ _ _ (h.2 i hi).1]
      simp
    · rw [World.cell?_setCell_other _ _ _ _ (fun x => by injection x with _ x _; omega)]
      simpa [e] using (h.2 i hi).1, by rw [World.frozen?_setCell]; exact (h.2 i hi).2⟩⟩

theorem Arr.far {w : World} {g g' n : Nat} {f : Nat → Int} (h : Arr w g n f) {q : Nat} (hg : g' ≠ g) (v : Value) : Arr (w.setCell ⟨g', q, none⟩ v) g n f :=
  ⟨by simpa using h.1, fun i hi => ⟨by
    rw [World.cell?_setCell_other _ _ _ _ (fun x => by injection x with x _ _; omega)]
    exact (h.2 i hi).1, by rw [World.frozen?_setCell]; exact (h.2 i hi).2⟩⟩


def fO (c : Nat → Nat → Int) (k : Nat) (i : Nat) : Int := if c i 0 < k then 1 else 0

theorem fO_next {c : Nat → Nat → Int} {k len i : Nat} (hi : i < len) : fO c k i + ((plc (pTh c k) len).count (i : Int) : Int) = fO c (k + 1) i := by
  rw [plc_count]
  unfold fO pTh
  by_cases h : c i 0 = (k : Int)
  · rw [if_neg (by omega), if_pos ⟨hi, by simpa using h⟩, if_pos (by omega)]
    rfl
  · rw [if_neg (c := i < len ∧ _) (by simp [h])]
    by_cases h2 : c i 0 < (k : Int)
    · rw [if_pos h2, if_pos (by omega)]; rfl
    · rw [if_neg h2, if_neg (by omega)]; rfl

set_option maxRecDepth 100000 in
set_option maxHeartbeats 4000000 in
theorem parts_ways (A : Option Addr) (len cap : Nat) (n : Int) (w : World) (hl : 60 < len ∨ 8 < n ∨ ∃ R : Int, (R != 0) = true ∧ Hid (Calls Try.prog 9 #[.slice A len cap, .int .i64 n] w fun e w' => e = .returned (.int .i64 R) ∧ Below w.heap.size w w'))
    (hm2 : len ≤ 9223372036854775807) :
    Calls Try.prog 6 #[.slice A len cap, .int .i64 n] w fun e w' => e = .returned (.bool true) ∧ Below w.heap.size w w' := by
  by_cases h1 : 60 < len
  · clear hl
    go_enter Try.func6, Try.ntmps6
    go_wp2_with (go_at_call 7; refine (works10_any _).mono ?_; rintro e ww ⟨rfl, hww⟩; obtain ⟨hcww, hfww⟩ := bcell hww; (try (simp only [World.size_drew, World.cell?_drew, World.frozen?_drew] at hcww hfww)); have hzww := hww.size; (try (simp only [World.size_alloc, World.size_setCell, World.size_drew] at hzww)); (try (have hzww_w_0 : w.heap.size < ww.heap.size := by omega)); (try (have hzww_w_1 : w.heap.size + 1 < ww.heap.size := by omega)); (try (have hzww_w_2 : w.heap.size + 1 + 1 < ww.heap.size := by omega)); (try (have hzww_w_3 : w.heap.size + 1 + 1 + 1 < ww.heap.size := by omega)); (try (have hyww_w : w.heap.size ≤ ww.heap.size := by omega)); (try (have hyww_wa : w.heap.size + 1 ≤ ww.heap.size := by omega)))
    go_ret
    exact ⟨rfl, by repeat (first | exact Below.refl _ _ | assumption | refine Below.alloc ?_ (by first | (simp; done) | (simp; omega) | omega) _ | refine Below.setCell ?_ (by first | (simp; done) | (simp; omega) | omega) _ | apply Below.drew | refine Below.trans ?_ (Below.mono (by assumption) (by first | (simp; done) | (simp; omega) | omega)))⟩
  by_cases h2 : 8 < n
  · clear hl
    have h1b : len ≤ 60 := by omega
    go_enter Try.func6, Try.ntmps6
    go_wp2_with (go_at_call 7; refine (works10_any _).mono ?_; rintro e ww ⟨rfl, hww⟩; obtain ⟨hcww, hfww⟩ := bcell hww; (try (simp only [World.size_drew, World.cell?_drew, World.frozen?_drew] at hcww hfww)); have hzww := hww.size; (try (simp only [World.size_alloc, World.size_setCell, World.size_drew] at hzww)); (try (have hzww_w_0 : w.heap.size < ww.heap.size := by omega)); (try (have hzww_w_1 : w.heap.size + 1 < ww.heap.size := by omega)); (try (have hzww_w_2 : w.heap.size + 1 + 1 < ww.heap.size := by omega)); (try (have hzww_w_3 : w.heap.size + 1 + 1 + 1 < ww.heap.size := by omega)); (try (have hyww_w : w.heap.size ≤ ww.heap.size := by omega)); (try (have hyww_wa : w.heap.size + 1 ≤ ww.heap.size := by omega)))
    go_ret
    exact ⟨rfl, by repeat (first | exact Below.refl _ _ | assumption | refine Below.alloc ?_ (by first | (simp; done) | (simp; omega) | omega) _ | refine Below.setCell ?_ (by first | (simp; done) | (simp; omega) | omega) _ | apply Below.drew | refine Below.trans ?_ (Below.mono (by assumption) (by first | (simp; done) | (simp; omega) | omega)))⟩
  have h1b : len ≤ 60 := by omega
  have h2b : n ≤ 8 := by omega
  rcases hl with h | h | ⟨R, hR, hc⟩
  · omega
  · omega
  go_enter Try.func6, Try.ntmps6
  go_wp2_with fail
  refine (unhide hc).mono ?_
  rintro e w1 ⟨rfl, hb1⟩
  have B1 := hide hb1
  clear hb1 hc
  go_wp2_with first | (go_at_call 8; refine (num10_any _ _).mono ?_; rintro e w' ⟨rfl, rfl⟩) | (go_at_call 7; refine (works10_any _).mono ?_; rintro e ww ⟨rfl, hww⟩; obtain ⟨hcww, hfww⟩ := bcell hww; (try (simp only [World.size_drew, World.cell?_drew, World.frozen?_drew] at hcww hfww)); have hzww := hww.size; (try (simp only [World.size_alloc, World.size_setCell, World.size_drew] at hzww)); (try (have hzww_w_0 : w.heap.size < ww.heap.size := by omega)); (try (have hzww_w_1 : w.heap.size + 1 < ww.heap.size := by omega)); (try (have hzww_w_2 : w.heap.size + 1 + 1 < ww.heap.size := by omega)); (try (have hzww_w_3 : w.heap.size + 1 + 1 + 1 < ww.heap.size := by omega)); (try (have hyww_w : w.heap.size ≤ ww.heap.size := by omega)); (try (have hyww_wa : w.heap.size + 1 ≤ ww.heap.size := by omega)))
  all_goals
    go_ret
    refine ⟨rfl, ?_⟩
    have := unhide B1
    have hsb := this.size
    repeat (first | exact Below.refl _ _ | assumption | refine Below.alloc ?_ (by first | (simp; done) | (simp; omega) | omega) _ | refine Below.setCell ?_ (by first | (simp; done) | (simp; omega) | omega) _ | apply Below.drew | refine Below.trans ?_ (Below.mono (by assumption) (by first | (simp; done) | (simp; omega) | omega)))

theorem parts_in {c : Nat → Nat → Int} {b d : Nat → Bool} {n : Int} {len j : Nat} (H : HistTo c b d n len) (hj : j < len) :
    decide ((j : Int) ∈ plc (pAt c d (c j 12)) len) = true ∧ (d j = true → decide ((j : Int) ∈ plc (pAt c d (c j 13)) len) = true) ∧
    (∀ x, x < c j 12 → decide ((j : Int) ∈ plc (pAt c d x) len) = false) ∧ (d j = true → ∀ x, x < 0 ∨ c j 13 < x → decide ((j : Int) ∈ plc (pAt c d x) len) = false) := by
  obtain ⟨f1, f2, f3, f4⟩ := one_facts (H j hj).1
  refine ⟨?_, fun hd => ?_, fun x hx => ?_, fun hd x hx => ?_⟩
  · simp only [decide_eq_true_eq, mem_plc]
    refine ⟨hj, ?_⟩
    unfold pAt undB
    cases hd : d j with
    | false => simp
    | true => simp [f4 hd]
  · simp only [decide_eq_true_eq, mem_plc]
    refine ⟨hj, ?_⟩
    unfold pAt undB
    simp [f4 hd]
  · simp only [decide_eq_false_iff_not, mem_plc]
    rintro ⟨_, h⟩
    unfold pAt undB at h
    simp only [Bool.and_eq_true, decide_eq_true_eq] at h
    omega
  · simp only [decide_eq_false_iff_not, mem_plc]
    rintro ⟨_, h⟩
    unfold pAt undB at h
    rw [hd] at h
    simp at h
    omega

/-- Two slices of places. -/
def TwoL (W : World) (s1 s2 : Value) (L M : List Int) : Prop := ∃ A1 c1 A2 c2, s1 = .slice A1 L.length c1 ∧ s2 = .slice A2 M.length c2 ∧ RdL W .i64 A1 L ∧ RdL W .i64 A2 M

set_option maxRecDepth 100000 in
set_option maxHeartbeats 16000000 in
theorem parts_ok (A : Option Addr) (len cap : Nat) (n : Nat) (hn : n ≤ 8) (hl2 : len ≤ 60) (w : World) (c : Nat → Nat → Int) (b d : Nat → Bool) (H : CallOk w A len c b d)
    (HI : HistTo c b d n len) (HW : ∀ k j, k < len → j = 0 ∨ j = 12 ∨ j = 13 → (Lit.int .i64 (c k j)).wf = true)
    (hck : Calls Try.prog 9 #[.slice A len cap, .int .i64 n] w fun e w' => e = .returned (.int .i64 0) ∧ Below w.heap.size w w') :
    Calls Try.prog 6 #[.slice A len cap, .int .i64 n] w fun e w' => e = .returned (.bool true) ∧ Below w.heap.size w w' := by
  have HCK := hide hck
  have HS := hide H
  have HH := hide HI
  have HWF := hide HW
  clear H HI HW hck
  have hl3 : ¬ 60 < len := by omega
  have hn3 : ¬ (8 : Int) < (n : Int) := by omega
  obtain ⟨i0, hi, hz0, hz1, hz2⟩ := info_parts info_int10
  have hmk := fun W => run_make_rowN (P := Try.prog) 40 3 i0 _ Try.underlying40 hi hz0 .i64 .i64 len len (Nat.le_refl _) (by rw [hz2]; omega) (by omega) W
  rw [hz1] at hmk
  clear hi hz0 hz1 hz2
  go_enter Try.func6, Try.ntmps6
  go_wp2_with fail
  refine (unhide HCK).mono ?_
  rintro e w1 ⟨rfl, hb1⟩
  have hg2 : w.heap.size ≤ w1.heap.size := hb1.size
  have HA0 : Hid (Arr (w1.alloc (.cells (madeCells #[Value.int .i64 0] len) 3)) w1.heap.size len (fO c 0)) := hide (by
    refine ⟨by simp, fun i hi => ⟨?_, by simp⟩⟩
    rw [show fO c 0 i = 0 from by
      unfold fO
      rw [if_neg]
      have := one_facts ((unhide HH) i hi).1
      omega]
    exact made_cell w1 (.int .i64 0) len _ i hi)
  have HB0 : Hid (Below w.heap.size w (w1.alloc (.cells (madeCells #[Value.int .i64 0] len) 3))) := hide (by repeat (first | exact Below.refl _ _ | assumption | refine Below.alloc ?_ (by first | (simp; done) | (simp; omega) | omega) _ | refine Below.setCell ?_ (by first | (simp; done) | (simp; omega) | omega) _ | apply Below.drew | refine Below.trans ?_ (Below.mono (by assumption) (by first | (simp; done) | (simp; omega) | omega))))
  clear HCK
  go_wp2_with (go_at_call 8; refine (num10_any _ _).mono ?_; rintro e w' ⟨rfl, rfl⟩)
  go_loopw [6] (fun i wr => ∃ k : Nat, k ≤ n ∧ i = .int .i64 k ∧ Hid (Arr wr w1.heap.size len (fO c k)) ∧ Below w.heap.size w wr) (fun i _ => n - (intOf i).toNat)
  case atStart => exact ⟨0, by omega, rfl, HA0, unhide HB0⟩
  case round =>
    obtain ⟨k, hk, rfl, HA, hB⟩ := hrel
    clear HA0 HB0
    obtain ⟨wk, hwk⟩ : ∃ wk : World, wk = wr := ⟨_, rfl⟩
    subst hwk
    have hsz := hB.size
    have gwr : w1.heap.size < wk.heap.size := (unhide HA).1
    by_cases hlt : k < n
    · have hk8 : (k : Int) ≤ 8 := by omega
      have hof := hide (of_new A len cap c b d k _ rfl (by omega) wk ((unhide HS).keep hB))
      have l6 := plc_len (pTh c k) len
      have hstep : ∀ (q : Nat), q < len → ∀ W, Below w.heap.size w W → ∃ bs os, A = some ⟨bs, os, none⟩ ∧ W.cell? ⟨bs, os + q * 15, none⟩ = some (.int .i64 (c q 0)) := fun q hq W hW => by
        obtain ⟨bs, os, e, _, hc⟩ := (unhide HS).keep hW (by omega)
        exact ⟨bs, os, e, (hc q hq).1⟩
      have HST := hide hstep
      have mem6 := hide (fun j (hj : j < (plc (pTh c k) len).length) => plc_mem hj)
      have nx6 := hide (fun i (hi : i < len) => fO_next (c := c) (k := k) hi)
      clear hstep
      generalize plc (pTh c k) len = L at *
      go_wp2_with fail
      refine (unhide hof).mono ?_
      rintro e w2 ⟨A6, c6, rfl, hn6, hb2⟩
      have N6 := hide hn6
      have hA2 := hide ((unhide HA).keep hb2)
      have hBw2 : Below w.heap.size w w2 := hB.trans (hb2.mono hsz)
      have sw2 := hb2.size
      clear hn6 hb2 hof HA hB
      go_wp2_with fail
      go_loopw [8] (fun i wr => ∃ j : Nat, j ≤ L.length ∧ i = .int .i64 j ∧ Hid (Arr wr w1.heap.size len (fun i => fO c k i + ((L.take j).count (i : Int) : Int)) ∧ NewL wk wr A6 L) ∧ Below w.heap.size w wr) (fun i _ => L.length - (intOf i).toNat)
      case atStart => exact ⟨0, Nat.zero_le _, rfl, hide ⟨(unhide hA2).congr (fun i _ => by simp), unhide N6⟩, hBw2⟩
      case round =>
        clear hA2 N6 hBw2
        obtain ⟨j, hj, rfl, HQ, hBq⟩ := hrel
        have sq := hBq.size
        by_cases hjl : j < L.length
        · obtain ⟨q, hq, hget, hpq⟩ := unhide mem6 j hjl
          obtain ⟨b6, rfl, hb6, hb6s, hc6⟩ := (unhide HQ).2 (by omega)
          have e6 := hc6 j hjl
          rw [hget] at e6
          obtain ⟨bs, os, rfl, cs0⟩ := unhide HST q hq wr hBq
          have hth : c q 0 = (k : Int) := by simpa [pTh] using hpq
          rw [hth] at cs0
          obtain ⟨o1, o2⟩ : wr.cell? ⟨w1.heap.size, q, none⟩ = some (.int .i64 (fO c k q + ((L.take j).count (q : Int) : Int))) ∧ wr.frozen? ⟨w1.heap.size, q, none⟩ = false := (unhide HQ).1.2 q hq
          have hval : fO c k q = 0 := by unfold fO; rw [if_neg (by omega)]
          have hcl := count_le L j (q : Int)
          have hct := hide (fun x => count_take L j hjl x)
          rw [hget] at hct
          have b0 : (0 : Int) ≤ (j : Int) := by omega
          have b1 : (j : Int) < (L.length : Int) := by omega
          have b2 : (0 : Int) ≤ (q : Int) := by omega
          have b3 : (q : Int) < (len : Int) := by omega
          have b4 : ¬ (q : Int) < 0 := by omega
          have b5 : ¬ (len : Int) ≤ (q : Int) := by omega
          have hne : ((k : Int) != (k : Int)) = false := by simp
          obtain ⟨cv, hcv⟩ : ∃ cv : Int, cv = ((L.take j).count (q : Int) : Int) := ⟨_, rfl⟩
          rw [hval, ← hcv, Int.zero_add] at o1
          rw [← hcv] at hcl
          have c0 : 0 ≤ cv := by omega
          have c1 : cv ≤ 1000 := by omega
          have HCV := hide hcv
          have HVAL := hide hval
          have hgb6 : w1.heap.size ≠ b6 := by omega
          clear hc6 hget hpq hth hval hcv
          go_wp2
          go_roundw
          case measure => simp [intOf]; omega
          case rel =>
            refine ⟨j + 1, by omega, by go_num, hide ⟨?_, (unhide HQ).2.set (by show w1.heap.size < _; omega) _⟩, hBq.setCell (p := ⟨w1.heap.size, q, none⟩) (by show w.heap.size ≤ w1.heap.size; omega) _⟩
            refine ((unhide HQ).1.set hq _).congr (fun i hi => ?_)
            have hh := unhide hct (i : Int)
            by_cases e : i = q
            · subst e
              rw [if_pos rfl] at hh
              simp only [if_true]
              rw [unhide HVAL, hh, ← unhide HCV]
              omega
            · rw [if_neg (by omega)] at hh
              simp only [e, if_false]
              rw [hh]
              omega
        · obtain rfl : j = L.length := by omega
          have hA3 := hide ((unhide HQ).1.congr (f' := fO c (k + 1)) (fun i hi => by rw [List.take_length]; exact unhide nx6 i hi))
          have hge : ¬ (L.length : Int) < (L.length : Int) := by omega
          clear HQ mem6 nx6 HST
          go_wp2
          go_roundw
          case measure => simp [intOf]; omega
          case rel => exact ⟨k + 1, by omega, by go_num, hA3, hBq⟩
    · obtain rfl : k = n := by omega
      have HA1 : Hid (Arr wk w1.heap.size len (fun _ => 1)) := hide ((unhide HA).congr (fun i hi => by
        unfold fO
        rw [if_pos]
        exact (one_facts (unhide HH i hi).1).2.1))
      clear HA
      go_wp2_with fail
      go_loopw [9] (fun i wr => ∃ j : Nat, j ≤ len ∧ i = .int .i64 j ∧ Hid (Arr wr w1.heap.size len (fun _ => 1)) ∧ Below w.heap.size w wr) (fun i _ => len - (intOf i).toNat)
      case atStart => exact ⟨0, Nat.zero_le _, rfl, HA1, hB⟩
      case round =>
        clear HA1 hB hsz gwr
        obtain ⟨j, hj, rfl, HA, hB⟩ := hrel
        have hsz := hB.size
        have gwr : w1.heap.size < wr.heap.size := (unhide HA).1
        by_cases hlj : j < len
        · obtain ⟨gs, os, rfl, hgs, hc⟩ := unhide HS (by omega)
          have HC : Hid (CAt w gs (os + j * 15) (c j) (b j) (d j)) := hide (hc j hlj)
          have hP := parts_in (unhide HH) hlj
          have f := one_facts ((unhide HH) j hlj).1
          have wf12 := wf_i64 (unhide HWF j 12 hlj (.inr (.inl rfl)))
          have wf13 := wf_i64 (unhide HWF j 13 hlj (.inr (.inr rfl)))
          have hA1 := fun W (hW : Below wr.heap.size wr W) => at_any (some ⟨gs, os, none⟩) len cap c b d (c j 12) _ rfl (by omega) W ((unhide HS).keep (hB.trans (hW.mono hB.size)))
          have hA2 := fun W (hW : Below wr.heap.size wr W) => at_any (some ⟨gs, os, none⟩) len cap c b d (c j 13) _ rfl (by omega) W ((unhide HS).keep (hB.trans (hW.mono hB.size)))
          have HA34 := hide (fun x W (hW : Below w.heap.size w W) => at_any (some ⟨gs, os, none⟩) len cap c b d x _ rfl (by omega) W ((unhide HS).keep hW))
          have hP1 := hP.1
          have hP2 := hP.2.1
          have HP3 := hide hP.2.2
          have l1 := plc_len (pAt c d (c j 12)) len
          have l2 := plc_len (pAt c d (c j 13)) len
          generalize plc (pAt c d (c j 12)) len = M1 at hP1 l1 hA1
          generalize plc (pAt c d (c j 13)) len = M2 at hP2 l2 hA2
          have HP1 := hide hP1
          have HP2 := hide hP2
          have hgr : gs < wr.heap.size := Nat.lt_of_lt_of_le hgs hsz
          obtain ⟨_, _, _, _, _, _, _, _, _, _, _, _, y12, y13, y14⟩ := (unhide HC).keep hgs hB
          have b4 : (0 : Int) ≤ (j : Int) := by omega
          have b5 : (j : Int) < (len : Int) := by omega
          clear hc hP hP1 hP2
          go_upto_region 17 with fail
          go_cut [10, 11] (fun s10 s11 wx => Hid (TwoL wx s10 s11 M1 M2) ∧ Below wr.heap.size wr wx)
          case first =>
            clear HA34 HP1 HP2 HP3 HC HWF HH HS
            go_region_held3 (fun W => Below wr.heap.size wr W ∧ W.cell? ⟨gs, os + j * 15 + 12, none⟩ = some (.int .i64 (c j 12)) ∧ W.cell? ⟨gs, os + j * 15 + 13, none⟩ = some (.int .i64 (c j 13))) (((refine and_dep ?_ (fun hkq => ⟨(hkq.cell (p := ⟨gs, os + j * 15 + 12, none⟩) hgr).trans y12, (hkq.cell (p := ⟨gs, os + j * 15 + 13, none⟩) hgr).trans y13⟩)); go_split_ands; repeat (first | exact Below.refl _ _ | assumption | refine Below.alloc ?_ (by first | (simp; done) | (simp; omega) | omega) _ | refine Below.setCell ?_ (by first | (simp; done) | (simp; omega) | omega) _ | apply Below.drew | refine Below.trans ?_ (Below.mono (by assumption) (by first | (simp; done) | (simp; omega) | omega))))) (first | (go_at_call 19; (with_reducible refine (hA1 _ (by go_split_ands; assumption)).mono ?_); rintro e w2 ⟨A2, c2, rfl, hr2, hb2⟩; have hz2 := hb2.size; (try simp only [World.size_drew] at hz2)) | (go_at_call 19; (with_reducible refine (hA2 _ (by go_split_ands; assumption)).mono ?_); rintro e w3 ⟨A3, c3, rfl, hr3, hb3⟩; have hz3 := hb3.size; (try simp only [World.size_drew] at hz3)))
            all_goals go_wp2_with fail
            all_goals go_meet
            · exact ⟨hide ⟨_, _, _, _, rfl, rfl, by first | exact hr2.keep hb3 | exact hr2, by first | exact hr3.keep hb2 | exact hr3⟩, by repeat (first | exact Below.refl _ _ | assumption | refine Below.alloc ?_ (by first | (simp; done) | (simp; omega) | omega) _ | refine Below.setCell ?_ (by first | (simp; done) | (simp; omega) | omega) _ | apply Below.drew | refine Below.trans ?_ (Below.mono (by assumption) (by first | (simp; done) | (simp; omega) | omega)))⟩
          case rest =>
            obtain ⟨HT, hBx⟩ := hcut
            obtain ⟨wx, hwx⟩ : ∃ wx, wx = wc := ⟨_, rfl⟩
            subst hwx
            have hB2 := hB.trans (hBx.mono hsz)
            have HAx := hide ((unhide HA).keep hBx)
            have hsx := hB2.size
            obtain ⟨A2, c2, A3, c3, rfl, rfl, hr2, hr3⟩ := unhide HT
            have HR2 := hide hr2
            have HR3 := hide hr3
            obtain ⟨o1, _⟩ := (unhide HAx).2 j hlj
            obtain ⟨_, _, _, _, _, _, _, _, _, _, _, _, q12, q13, q14⟩ := (unhide HC).keep hgs hB2
            clear HA hB hBx HT hr2 hr3 y12 y13 y14 hA1 hA2 hsz gwr hgr
            obtain ⟨wr, hwr⟩ : ∃ wr, wr = wx := ⟨_, rfl⟩
            subst hwr
            have HB2 := hide hB2
            have HAM1 := hide (fun W (h : RdL W .i64 A2 M1) => among_any A2 c2 M1 j (by omega) W h)
            have HAM2 := hide (fun W (h : RdL W .i64 A3 M2) => among_any A3 c3 M2 j (by omega) W h)
            have bw : ∀ {W : World}, Below wr.heap.size wr W → Below w.heap.size w W := fun h => (unhide HB2).trans (h.mono (unhide HB2).size)
            clear hB2
            cases hd : d j with
            | true =>
              have HD := hide hd
              rw [hd] at q14
              clear hd
              go_wp2_with fail
              refine (unhide HAM1 _ (unhide HR2)).mono ?_
              rintro e w4 ⟨rfl, hb4⟩
              rw [unhide HP1]
              have HB4 := hide hb4
              have HR3 := hide ((unhide HR3).keep hb4)
              clear hb4 HR2 q12 q13 q14 o1
              obtain ⟨_, _, _, _, _, _, _, _, _, _, _, _, q12, q13, q14⟩ := (unhide HC).keep hgs (bw (unhide HB4))
              rw [unhide HD] at q14
              go_wp2_with fail
              refine (unhide HAM2 _ (unhide HR3)).mono ?_
              rintro e w5 ⟨rfl, hb5⟩
              rw [unhide HP2 (unhide HD)]
              have HB5 := hide ((unhide HB4).trans (hb5.mono (unhide HB4).size))
              clear hb5 HR3 q12 q13 q14
              obtain ⟨_, _, _, _, _, _, _, _, _, _, _, _, q12, q13, q14⟩ := (unhide HC).keep hgs (bw (unhide HB5))
              rw [unhide HD] at q14
              have hcx := unhide HA34 (c j 12 - 1)
              have l6 := plc_len (pAt c d (c j 12 - 1)) len
              have HPx := hide ((unhide HP3).1 (c j 12 - 1) (by omega))
              generalize plc (pAt c d (c j 12 - 1)) len = M6 at hcx l6 HPx
              go_wp2_with fail
              refine (hcx _ (bw (unhide HB5))).mono ?_
              rintro e w6 ⟨A6, c6, rfl, hr6, hb6⟩
              have HB6 := hide ((unhide HB5).trans (hb6.mono (unhide HB5).size))
              have HR6 := hide hr6
              clear hb6 hr6 hcx q12 q13 q14
              go_wp2_with fail
              refine (among_any A6 c6 M6 j (by omega) _ (unhide HR6)).mono ?_
              rintro e w7 ⟨rfl, hb7⟩
              rw [unhide HPx]
              have HB7 := hide ((unhide HB6).trans (hb7.mono (unhide HB6).size))
              clear hb7 HR6 HPx
              obtain ⟨_, _, _, _, _, _, _, _, _, _, _, _, q12, q13, q14⟩ := (unhide HC).keep hgs (bw (unhide HB7))
              rw [unhide HD] at q14
              by_cases hmx : c j 13 < 9223372036854775807
              · have hmy : c j 13 + 1 ≤ 9223372036854775807 := by omega
                have hcx := unhide HA34 (c j 13 + 1)
                have l8 := plc_len (pAt c d (c j 13 + 1)) len
                have HPx := hide ((unhide HP3).2 (unhide HD) (c j 13 + 1) (.inr (by omega)))
                generalize plc (pAt c d (c j 13 + 1)) len = M8 at hcx l8 HPx
                go_wp2_with fail
                refine (hcx _ (bw (unhide HB7))).mono ?_
                rintro e w8 ⟨A8, c8, rfl, hr8, hb8⟩
                have HB8 := hide ((unhide HB7).trans (hb8.mono (unhide HB7).size))
                have HR8 := hide hr8
                clear hb8 hr8 hcx q12 q13 q14
                go_wp2_with fail
                refine (among_any A8 c8 M8 j (by omega) _ (unhide HR8)).mono ?_
                rintro e w9 ⟨rfl, hb9⟩
                rw [unhide HPx]
                have HB9 := hide ((unhide HB8).trans (hb9.mono (unhide HB8).size))
                clear hb9 HR8 HPx
                have hBf := bw (unhide HB9)
                have HAf := hide ((unhide HAx).keep (unhide HB9))
                clear HB2 bw
                go_wp2
                go_roundw
                case measure => simp [intOf]; omega
                case rel => exact ⟨j + 1, by omega, by go_num, HAf, hBf⟩
              · have hwn : wrap64 (c j 13 + 1) < 0 := by
                  rw [show c j 13 = 9223372036854775807 by omega]
                  unfold wrap64
                  omega
                have hcx := unhide HA34 (wrap64 (c j 13 + 1))
                have l8 := plc_len (pAt c d (wrap64 (c j 13 + 1))) len
                have HPx := hide ((unhide HP3).2 (unhide HD) (wrap64 (c j 13 + 1)) (.inl hwn))
                generalize plc (pAt c d (wrap64 (c j 13 + 1))) len = M8 at hcx l8 HPx
                clear hwn
                go_wp2_with fail
                refine (hcx _ (bw (unhide HB7))).mono ?_
                rintro e w8 ⟨A8, c8, rfl, hr8, hb8⟩
                have HB8 := hide ((unhide HB7).trans (hb8.mono (unhide HB7).size))
                have HR8 := hide hr8
                clear hb8 hr8 hcx q12 q13 q14
                go_wp2_with fail
                refine (among_any A8 c8 M8 j (by omega) _ (unhide HR8)).mono ?_
                rintro e w9 ⟨rfl, hb9⟩
                rw [unhide HPx]
                have HB9 := hide ((unhide HB8).trans (hb9.mono (unhide HB8).size))
                clear hb9 HR8 HPx
                have hBf := bw (unhide HB9)
                have HAf := hide ((unhide HAx).keep (unhide HB9))
                clear HB2 bw
                go_wp2
                go_roundw
                case measure => simp [intOf]; omega
                case rel => exact ⟨j + 1, by omega, by go_num, HAf, hBf⟩
            | false =>
              have HD := hide hd
              rw [hd] at q14
              clear hd
              go_wp2_with fail
              refine (unhide HAM1 _ (unhide HR2)).mono ?_
              rintro e w4 ⟨rfl, hb4⟩
              rw [unhide HP1]
              have HB4 := hide hb4
              clear hb4 HR2 HR3 q12 q13 q14 o1
              obtain ⟨_, _, _, _, _, _, _, _, _, _, _, _, q12, q13, q14⟩ := (unhide HC).keep hgs (bw (unhide HB4))
              rw [unhide HD] at q14
              have hcx := unhide HA34 (c j 12 - 1)
              have l5 := plc_len (pAt c d (c j 12 - 1)) len
              have HPx := hide ((unhide HP3).1 (c j 12 - 1) (by omega))
              generalize plc (pAt c d (c j 12 - 1)) len = M5 at hcx l5 HPx
              go_wp2_with fail
              refine (hcx _ (bw (unhide HB4))).mono ?_
              rintro e w5 ⟨A5, c5, rfl, hr5, hb5⟩
              have HB5 := hide ((unhide HB4).trans (hb5.mono (unhide HB4).size))
              have HR5 := hide hr5
              clear hb5 hr5 hcx q12 q13 q14
              go_wp2_with fail
              refine (among_any A5 c5 M5 j (by omega) _ (unhide HR5)).mono ?_
              rintro e w6 ⟨rfl, hb6⟩
              rw [unhide HPx]
              have HB6 := hide ((unhide HB5).trans (hb6.mono (unhide HB5).size))
              clear hb6 HR5 HPx
              obtain ⟨_, _, _, _, _, _, _, _, _, _, _, _, q12, q13, q14⟩ := (unhide HC).keep hgs (bw (unhide HB6))
              rw [unhide HD] at q14
              have hBf := bw (unhide HB6)
              have HAf := hide ((unhide HAx).keep (unhide HB6))
              clear HB2 bw
              go_wp2
              go_roundw
              case measure => simp [intOf]; omega
              case rel => exact ⟨j + 1, by omega, by go_num, HAf, hBf⟩
        · have B0 := hide hB
          clear hB HWF HH HA
          go_wp2_with (go_at_call 7; refine (works10_any _).mono ?_; rintro e ww ⟨rfl, hww⟩; obtain ⟨hcww, hfww⟩ := bcell hww; (try (simp only [World.size_drew, World.cell?_drew, World.frozen?_drew] at hcww hfww)); have hzww := hww.size; (try (simp only [World.size_alloc, World.size_setCell, World.size_drew] at hzww)); (try (have hzww_w_0 : w.heap.size < ww.heap.size := by omega)); (try (have hzww_w_1 : w.heap.size + 1 < ww.heap.size := by omega)); (try (have hzww_w_2 : w.heap.size + 1 + 1 < ww.heap.size := by omega)); (try (have hzww_w_3 : w.heap.size + 1 + 1 + 1 < ww.heap.size := by omega)); (try (have hyww_w : w.heap.size ≤ ww.heap.size := by omega)); (try (have hyww_wa : w.heap.size + 1 ≤ ww.heap.size := by omega)))
          go_ret
          refine ⟨rfl, ?_⟩
          have := unhide B0
          have hsb := this.size
          repeat (first | exact Below.refl _ _ | assumption | refine Below.alloc ?_ (by first | (simp; done) | (simp; omega) | omega) _ | refine Below.setCell ?_ (by first | (simp; done) | (simp; omega) | omega) _ | apply Below.drew | refine Below.trans ?_ (Below.mono (by assumption) (by first | (simp; done) | (simp; omega) | omega)))

theorem historyParts_walk (A : Option Addr) (len cap : Nat) (n : Int) (hwn : (Lit.int .i64 n).wf = true) (w : World) (hr : RowOk w 5 [.int .i64, .int .i64, .int .i64, .int .i64, .int .i64, .int .i64, .int .i64, .int .i64, .int .i64, .int .i64, .bool, .int .i64, .int .i64, .int .i64, .bool] A len cap) :
    Calls Try.prog 6 #[.slice A len cap, .int .i64 n] w fun e w' => e = .returned (.bool true) ∧ Below w.heap.size w w' := by
  have hm := hr.1
  have hm2 := hr.2.1
  unfold maxLen at hm2
  obtain ⟨c, b, d, H, HW⟩ := CallOk.of_row hr
  have hck := chk10_any A len cap c b d n w H HW
  by_cases h1 : 60 < len
  · exact parts_ways A len cap n w (.inl h1) (by omega)
  by_cases h2 : 8 < n
  · exact parts_ways A len cap n w (.inr (.inl h2)) (by omega)
  by_cases hz : chkI c b d n len = 0
  · have hn1 : 1 ≤ n := by
      by_cases h : n < 1
      · unfold chkI at hz
        rw [if_pos (.inl h)] at hz
        cases hz
      · omega
    rw [hz] at hck
    have hh := hist_zero hz
    obtain ⟨N, rfl⟩ : ∃ N : Nat, n = N := ⟨n.toNat, by omega⟩
    exact parts_ok A len cap N (by omega) (by omega) w c b d H hh HW hck
  · exact parts_ways A len cap n w (.inr (.inr ⟨_, by simpa using hz, hide hck⟩)) (by omega)
end Go.Proofs.Ytahfoogcdgjimaa
