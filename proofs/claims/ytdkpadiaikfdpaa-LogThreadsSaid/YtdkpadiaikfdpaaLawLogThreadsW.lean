/- The walk of LogThreads: it returns true. -/
import Derived.Test.YtdkpadiaikfdpaaLgW
import Derived.Test.YtdkpadiaikfdpaaLgV
import Derived.Test.YtdkpadiaikfdpaaLgT
import Derived.Deep.DeepCutAuto
import Derived.Deep.WholeRow
namespace Go.Proofs.Ytdkpadiaikfdpaa
set_option linter.unusedVariables false
set_option linter.unusedSimpArgs false
open Go.RowKit

/-- An array of numbers. -/
def Arr (W : World) (g n : Nat) (f : Nat → Int) : Prop := g < W.heap.size ∧ ∀ i, i < n → W.cell? ⟨g, i, none⟩ = some (.int .i64 (f i)) ∧ W.frozen? ⟨g, i, none⟩ = false

theorem Arr.keep {w W : World} {g n : Nat} {f : Nat → Int} (h : Arr w g n f) (hb : Below w.heap.size w W) : Arr W g n f :=
  ⟨Nat.lt_of_lt_of_le h.1 hb.size, fun i hi => ⟨(hb.cell (p := ⟨g, i, none⟩) h.1).trans (h.2 i hi).1, (hb.frozen (p := ⟨g, i, none⟩) h.1).trans (h.2 i hi).2⟩⟩

theorem Arr.congr {w : World} {g n : Nat} {f f' : Nat → Int} (h : Arr w g n f) (e : ∀ i, i < n → f i = f' i) : Arr w g n f' := ⟨h.1, fun i hi => by rw [← e i hi]; exact h.2 i hi⟩

theorem Arr.set {w : World} {g n : Nat} {f : Nat → Int} (h : Arr w g n f) {q : Nat} (hq : q < n) (v : Int) : Arr (w.setCell ⟨g, q, none⟩ (.int .i64 v)) g n (fun i => if i = q then v else f i) :=
  ⟨by simpa using h.1, fun i hi => ⟨by
    by_cases e : i = q
    · subst e
      rw [World.cell?_setCell_same _ _ _ (h.2 i hi).1]
      simp
    · rw [World.cell?_setCell_other _ _ _ _ (fun x => by injection x with _ x _; omega)]
      simpa [e] using (h.2 i hi).1, by rw [World.frozen?_setCell]; exact (h.2 i hi).2⟩⟩

theorem Arr.far {w : World} {g g' n : Nat} {f : Nat → Int} (h : Arr w g n f) {q : Nat} (hg : g' ≠ g) (v : Value) : Arr (w.setCell ⟨g', q, none⟩ v) g n f :=
  ⟨by simpa using h.1, fun i hi => ⟨by
    rw [World.cell?_setCell_other _ _ _ _ (fun x => by injection x with x _ _; omega)]
    exact (h.2 i hi).1, by rw [World.frozen?_setCell]; exact (h.2 i hi).2⟩⟩

theorem Arr.drew {w : World} {g n : Nat} {f : Nat → Int} (h : Arr w g n f) : Arr w.drew g n f := h

theorem mk2 (w : World) (len : Nat) (t : TypeId) (f f' : Nat → Int) (hf : ∀ i, f i = 0) (hf' : ∀ i, f' i = 0) : Arr ((w.alloc (.cells (madeCells #[Value.int .i64 0] len) t)).alloc (.cells (madeCells #[Value.int .i64 0] len) t)) w.heap.size len f ∧
    Arr ((w.alloc (.cells (madeCells #[Value.int .i64 0] len) t)).alloc (.cells (madeCells #[Value.int .i64 0] len) t)) (w.heap.size + 1) len f' := by
  constructor
  · refine ⟨by simp; omega, fun i hi => ⟨?_, by simp⟩⟩
    rw [World.cell?_alloc_lt _ _ _ (by simp), hf]
    exact made_cell w _ _ _ _ hi
  · refine ⟨by simp, fun i hi => ⟨?_, by simp⟩⟩
    have q := made_cell (w.alloc (.cells (madeCells #[Value.int .i64 0] len) t)) (.int .i64 0) len t i hi
    rw [World.size_alloc] at q
    rw [hf']
    exact q

def fO (st : Nat → Nat → Int) (k : Nat) (i : Nat) : Int := if 0 ≤ st i 0 ∧ st i 0 < k then 1 else 0
def fA (st : Nat → Nat → Int) (k : Nat) (i : Nat) : Int := if 0 ≤ st i 2 ∧ st i 2 < k ∧ 0 < st i 1 ∧ st i 1 ≤ 3 then 1 else 0

theorem fO_next {st : Nat → Nat → Int} {k len i : Nat} (hi : i < len) : fO st k i + ((plc (pOf st k) len).count (i : Int) : Int) = fO st (k + 1) i := by
  rw [plc_count]
  unfold fO pOf
  by_cases h : st i 0 = (k : Int)
  · rw [if_neg (by omega), if_pos ⟨hi, by simpa using h⟩, if_pos (by omega)]
    rfl
  · rw [if_neg (c := i < len ∧ _) (by simp [h])]
    by_cases h2 : 0 ≤ st i 0 ∧ st i 0 < (k : Int)
    · rw [if_pos h2, if_pos (by omega)]; rfl
    · rw [if_neg h2, if_neg (by omega)]; rfl

theorem fA_next {st : Nat → Nat → Int} {k len i : Nat} (hi : i < len) : fA st k i + ((plc (pTo st k) len).count (i : Int) : Int) = fA st (k + 1) i := by
  rw [plc_count]
  unfold fA pTo
  by_cases h : st i 2 = (k : Int) ∧ 0 < st i 1 ∧ st i 1 ≤ 3
  · rw [if_neg (by omega), if_pos ⟨hi, by simpa using h⟩, if_pos (by omega)]
    rfl
  · rw [if_neg (c := i < len ∧ _) (by simp [h])]
    by_cases h2 : 0 ≤ st i 2 ∧ st i 2 < (k : Int) ∧ 0 < st i 1 ∧ st i 1 ≤ 3
    · rw [if_pos h2, if_pos (by omega)]; rfl
    · rw [if_neg h2, if_neg (by omega)]; rfl

theorem fO_0 (st : Nat → Nat → Int) (i : Nat) : fO st 0 i = 0 := by unfold fO; rw [if_neg (by omega)]
theorem fA_0 (st : Nat → Nat → Int) (i : Nat) : fA st 0 i = 0 := by unfold fA; rw [if_neg (by omega)]
theorem fO_01 (st : Nat → Nat → Int) (k i : Nat) : 0 ≤ fO st k i ∧ fO st k i ≤ 1 := by unfold fO; split <;> omega
theorem fA_01 (st : Nat → Nat → Int) (k i : Nat) : 0 ≤ fA st k i ∧ fA st k i ≤ 1 := by unfold fA; split <;> omega

set_option maxRecDepth 100000 in
set_option maxHeartbeats 16000000 in
theorem logThreads_walk (A : Option Addr) (len cap : Nat) (w : World) (hr : RowOk w 5 [.int .i64, .int .i64, .int .i64, .int .u64, .int .u64, .int .u64] A len cap) :
    Calls Try.prog 8 #[.slice A len cap] w fun e w' => e = .returned (.bool true) ∧ Below w.heap.size w w' := by
  have hm := hr.1
  have hm2 := hr.2.1
  unfold maxLen at hm2
  obtain ⟨st, hS, _⟩ := StOk.of_row hr
  have HS := hide hS
  clear hr hS
  by_cases hl : 60 < len
  · go_enter Try.func8, Try.ntmps8
    go_wp2_with (go_at_call 10; refine (works13_any _).mono ?_; rintro e ww ⟨rfl, hww⟩; obtain ⟨hcww, hfww⟩ := bcell hww; (try (simp only [World.size_drew, World.cell?_drew, World.frozen?_drew] at hcww hfww)); have hzww := hww.size; (try (simp only [World.size_alloc, World.size_setCell, World.size_drew] at hzww)); (try (have hzww_w_0 : w.heap.size < ww.heap.size := by omega)); (try (have hzww_w_1 : w.heap.size + 1 < ww.heap.size := by omega)); (try (have hzww_w_2 : w.heap.size + 1 + 1 < ww.heap.size := by omega)); (try (have hzww_w_3 : w.heap.size + 1 + 1 + 1 < ww.heap.size := by omega)); (try (have hyww_w : w.heap.size ≤ ww.heap.size := by omega)); (try (have hyww_wa : w.heap.size + 1 ≤ ww.heap.size := by omega)))
    go_ret
    exact ⟨rfl, by repeat (first | exact Below.refl _ _ | assumption | refine Below.alloc ?_ (by first | (simp; done) | (simp; omega) | omega) _ | refine Below.setCell ?_ (by first | (simp; done) | (simp; omega) | omega) _ | apply Below.drew | refine Below.trans ?_ (Below.mono (by assumption) (by first | (simp; done) | (simp; omega) | omega)))⟩
  have hl2 : len ≤ 60 := by omega
  obtain ⟨i0, hi, hz0, hz1, hz2⟩ := info_parts info_int13
  have hmk := fun W => run_make_rowN (P := Try.prog) 31 3 i0 _ Try.underlying31 hi hz0 .i64 .i64 len len (Nat.le_refl _) (by rw [hz2]; omega) (by omega) W
  rw [hz1] at hmk
  clear hi hz0 hz1 hz2
  go_enter Try.func8, Try.ntmps8
  go_upto_region 3 with fail
  go_cut [3, 4] (fun s3 s4 wx => ∃ g h : Nat, s3 = .slice (some ⟨g, 0, none⟩) len len ∧ s4 = .slice (some ⟨h, 0, none⟩) len len ∧ g ≠ h ∧ w.heap.size ≤ g ∧ w.heap.size ≤ h ∧ Hid (Arr wx g len (fO st 0) ∧ Arr wx h len (fA st 0)) ∧ Below w.heap.size w wx)
  case first =>
    go_region
    all_goals
      go_wp2_with fail
      go_meet
      first
        | exact ⟨_, _, rfl, rfl, by omega, Nat.le_refl _, by omega, hide (by first | exact mk2 w len _ _ _ (fO_0 st) (fA_0 st) | exact ⟨((mk2 w len _ _ _ (fO_0 st) (fA_0 st)).1).drew, ((mk2 w len _ _ _ (fO_0 st) (fA_0 st)).2).drew⟩), by repeat (first | exact Below.refl _ _ | assumption | refine Below.alloc ?_ (by first | (simp; done) | (simp; omega) | omega) _ | refine Below.setCell ?_ (by first | (simp; done) | (simp; omega) | omega) _ | apply Below.drew | refine Below.trans ?_ (Below.mono (by assumption) (by first | (simp; done) | (simp; omega) | omega)))⟩
        | exact ⟨_, _, rfl, rfl, by omega, by omega, Nat.le_refl _, hide (by first | exact (mk2 w len _ _ _ (fA_0 st) (fO_0 st)).symm | exact ⟨((mk2 w len _ _ _ (fA_0 st) (fO_0 st)).2).drew, ((mk2 w len _ _ _ (fA_0 st) (fO_0 st)).1).drew⟩), by repeat (first | exact Below.refl _ _ | assumption | refine Below.alloc ?_ (by first | (simp; done) | (simp; omega) | omega) _ | refine Below.setCell ?_ (by first | (simp; done) | (simp; omega) | omega) _ | apply Below.drew | refine Below.trans ?_ (Below.mono (by assumption) (by first | (simp; done) | (simp; omega) | omega)))⟩
  case rest =>
    obtain ⟨g, h, rfl, rfl, hgh, hg, hh, HAB, hB0⟩ := hcut
    clear hmk
    have h0size := hB0.size
    go_wp2
    go_loopw [5] (fun i wr => ∃ k : Nat, k ≤ 9 ∧ i = .int .i64 k ∧ Hid (Arr wr g len (fO st k) ∧ Arr wr h len (fA st k)) ∧ Below w.heap.size w wr) (fun i _ => 9 - (intOf i).toNat)
    case atStart => exact ⟨0, by omega, rfl, HAB, hB0⟩
    case round =>
      obtain ⟨k, hk, rfl, HA, hB⟩ := hrel
      obtain ⟨wk, hwk⟩ : ∃ wk : World, wk = wr := ⟨_, rfl⟩
      subst hwk
      have hsz := hB.size
      by_cases hlt : k < 9
      · have hk8 : (k : Int) ≤ 8 := by omega
        have hHS := hide ((unhide HS).keep hB)
        have hof := hide (of_new A len cap st k (by omega) wk (unhide hHS))
        have hto := hide (fun W (hb : Below wk.heap.size wk W) => touches_new A len cap st k (by omega) W ((unhide hHS).keep hb))
        have l6 := plc_len (pOf st k) len
        have l7 := plc_len (pTo st k) len
        go_wp2_with fail
        refine (unhide hof).mono ?_
        rintro e w1 ⟨A6, c6, rfl, hn6, hb1⟩
        have N6 := hide hn6
        have B1 := hide hb1
        clear hn6 hb1 hof
        go_wp2_with fail
        refine (unhide hto w1 (unhide B1)).mono ?_
        rintro e w2 ⟨A7, c7, rfl, hn7, hb2⟩
        have N7 := hide hn7
        have N6 := hide ((unhide N6).keep hb2)
        have hB2 : Below wk.heap.size wk w2 := (unhide B1).trans (hb2.mono (unhide B1).size)
        have hA2 := hide (And.intro ((unhide HA).1.keep hB2) ((unhide HA).2.keep hB2))
        have hBw2 : Below w.heap.size w w2 := hB.trans (hB2.mono hsz)
        have gwr : g < wk.heap.size := (unhide HA).1.1
        have hwr : h < wk.heap.size := (unhide HA).2.1
        have sw2 := hB2.size
        have s12 := (unhide B1).size
        have hstep : ∀ (q : Nat), q < len → ∀ W, Below w.heap.size w W → ∃ bs os, A = some ⟨bs, os, none⟩ ∧ W.cell? ⟨bs, os + q * 6, none⟩ = some (.int .i64 (st q 0)) ∧ W.cell? ⟨bs, os + q * 6 + 2, none⟩ = some (.int .i64 (st q 2)) := fun q hq W hW => by
          obtain ⟨bs, os, e, _, hc⟩ := (unhide HS).keep hW (by omega)
          exact ⟨bs, os, e, (hc q hq).1, (hc q hq).2.2.1⟩
        have HST := hide hstep
        have mem6 := hide (fun j (hj : j < (plc (pOf st k) len).length) => plc_mem hj)
        have mem7 := hide (fun j (hj : j < (plc (pTo st k) len).length) => plc_mem hj)
        have nx6 := hide (fun i (hi : i < len) => fO_next (st := st) (k := k) hi)
        have nx7 := hide (fun i (hi : i < len) => fA_next (st := st) (k := k) hi)
        clear hn7 hb2 hto HA hHS hB hB2 hstep B1
        generalize plc (pOf st k) len = L at *
        generalize plc (pTo st k) len = M at *
        go_wp2_with fail
        obtain ⟨wo, rfl⟩ : ∃ wo : World, wo = w2 := ⟨_, rfl⟩
        go_loopw [8] (fun i wr => ∃ j : Nat, j ≤ L.length ∧ i = .int .i64 j ∧ Hid (Arr wr g len (fun i => fO st k i + ((L.take j).count (i : Int) : Int)) ∧ Arr wr h len (fA st k) ∧ NewL wk wr A6 L ∧ NewL w1 wr A7 M) ∧ Below w.heap.size w wr) (fun i _ => L.length - (intOf i).toNat)
        case atStart => exact ⟨0, Nat.zero_le _, rfl, hide ⟨(unhide hA2).1.congr (fun i _ => by simp), (unhide hA2).2, unhide N6, unhide N7⟩, hBw2⟩
        case round =>
          obtain ⟨j, hj, rfl, HQ, hBq⟩ := hrel
          have sq := hBq.size
          by_cases hjl : j < L.length
          · obtain ⟨q, hq, hget, hpq⟩ := unhide mem6 j hjl
            obtain ⟨b6, rfl, hb6, hb6s, hc6⟩ := (unhide HQ).2.2.1 (by omega)
            have e6 := hc6 j hjl
            rw [hget] at e6
            obtain ⟨bs, os, rfl, cs0, _⟩ := unhide HST q hq wr hBq
            have hth : st q 0 = (k : Int) := by simpa [pOf] using hpq
            rw [hth] at cs0
            obtain ⟨o1, o2⟩ : wr.cell? ⟨g, q, none⟩ = some (.int .i64 (fO st k q + ((L.take j).count (q : Int) : Int))) ∧ wr.frozen? ⟨g, q, none⟩ = false := (unhide HQ).1.2 q hq
            have hval : fO st k q = 0 := by unfold fO; rw [if_neg (by omega)]
            have hcl := count_le L j (q : Int)
            have hct := hide (fun x => count_take L j hjl x)
            rw [hget] at hct
            have b0 : (0 : Int) ≤ (j : Int) := by omega
            have b1 : (j : Int) < (L.length : Int) := by omega
            have b2 : (0 : Int) ≤ (q : Int) := by omega
            have b3 : (q : Int) < (len : Int) := by omega
            have b4 : ¬ (q : Int) < 0 := by omega
            have b5 : ¬ (len : Int) ≤ (q : Int) := by omega
            have hne : ((k : Int) != (k : Int)) = false := by simp
            obtain ⟨cv, hcv⟩ : ∃ cv : Int, cv = ((L.take j).count (q : Int) : Int) := ⟨_, rfl⟩
            rw [hval, ← hcv, Int.zero_add] at o1
            rw [← hcv] at hcl
            have c0 : 0 ≤ cv := by omega
            have c1 : cv ≤ 1000 := by omega
            have HCV := hide hcv
            have HVAL := hide hval
            have hgb6 : g ≠ b6 := by omega
            clear hc6 hget hpq hth hval hcv
            go_wp2
            go_roundw
            case measure => simp [intOf]; omega
            case rel =>
              refine ⟨j + 1, by omega, by go_num, hide ⟨?_, (unhide HQ).2.1.far hgh _, (unhide HQ).2.2.1.set (by show g < _; omega) _, (unhide HQ).2.2.2.set (by show g < _; omega) _⟩, hBq.setCell (p := ⟨g, q, none⟩) (by show w.heap.size ≤ g; omega) _⟩
              refine ((unhide HQ).1.set hq _).congr (fun i hi => ?_)
              have hh := unhide hct (i : Int)
              by_cases e : i = q
              · subst e
                rw [if_pos rfl] at hh
                simp only [if_true]
                rw [unhide HVAL, hh, ← unhide HCV]
                omega
              · rw [if_neg (by omega)] at hh
                simp only [e, if_false]
                rw [hh]
                omega
          · obtain rfl : j = L.length := by omega
            have hA3 := hide (And.intro ((unhide HQ).1.congr (f' := fO st (k + 1)) (fun i hi => by rw [List.take_length]; exact unhide nx6 i hi)) (unhide HQ).2.1)
            have N7' := hide (unhide HQ).2.2.2
            have hge : ¬ (L.length : Int) < (L.length : Int) := by omega
            clear HQ mem6 nx6
            go_wp2
            obtain ⟨wm, hwm⟩ : ∃ wm : World, wm = wr := ⟨_, rfl⟩
            subst hwm
            go_loopw [9] (fun i wr => ∃ j : Nat, j ≤ M.length ∧ i = .int .i64 j ∧ Hid (Arr wr g len (fO st (k + 1)) ∧ Arr wr h len (fun i => fA st k i + ((M.take j).count (i : Int) : Int)) ∧ NewL w1 wr A7 M) ∧ Below w.heap.size w wr) (fun i _ => M.length - (intOf i).toNat)
            case atStart => exact ⟨0, Nat.zero_le _, rfl, hide ⟨(unhide hA3).1, (unhide hA3).2.congr (fun i _ => by simp), unhide N7'⟩, hBq⟩
            case round =>
              obtain ⟨j, hj, rfl, HQ, hBq⟩ := hrel
              have sq := hBq.size
              by_cases hjl : j < M.length
              · obtain ⟨q, hq, hget, hpq⟩ := unhide mem7 j hjl
                obtain ⟨b6, rfl, hb6, hb6s, hc6⟩ := (unhide HQ).2.2 (by omega)
                have e6 := hc6 j hjl
                rw [hget] at e6
                obtain ⟨bs, os, rfl, _, cs0⟩ := unhide HST q hq wr hBq
                have hth : st q 2 = (k : Int) ∧ 0 < st q 1 ∧ st q 1 ≤ 3 := by simpa [pTo] using hpq
                rw [hth.1] at cs0
                obtain ⟨o1, o2⟩ : wr.cell? ⟨h, q, none⟩ = some (.int .i64 (fA st k q + ((M.take j).count (q : Int) : Int))) ∧ wr.frozen? ⟨h, q, none⟩ = false := (unhide HQ).2.1.2 q hq
                have hval : fA st k q = 0 := by unfold fA; rw [if_neg (by omega)]
                have hcl := count_le M j (q : Int)
                have hct := hide (fun x => count_take M j hjl x)
                rw [hget] at hct
                have b0 : (0 : Int) ≤ (j : Int) := by omega
                have b1 : (j : Int) < (M.length : Int) := by omega
                have b2 : (0 : Int) ≤ (q : Int) := by omega
                have b3 : (q : Int) < (len : Int) := by omega
                have b4 : ¬ (q : Int) < 0 := by omega
                have b5 : ¬ (len : Int) ≤ (q : Int) := by omega
                have hne : ((k : Int) != (k : Int)) = false := by simp
                obtain ⟨cv, hcv⟩ : ∃ cv : Int, cv = ((M.take j).count (q : Int) : Int) := ⟨_, rfl⟩
                rw [hval, ← hcv, Int.zero_add] at o1
                rw [← hcv] at hcl
                have c0 : 0 ≤ cv := by omega
                have c1 : cv ≤ 1000 := by omega
                have HCV := hide hcv
                have HVAL := hide hval
                have hgb6 : h ≠ b6 := by omega
                clear hc6 hget hpq hth hval hcv
                go_wp2
                go_roundw
                case measure => simp [intOf]; omega
                case rel =>
                  refine ⟨j + 1, by omega, by go_num, hide ⟨(unhide HQ).1.far (fun e => hgh e.symm) _, ?_, (unhide HQ).2.2.set (by show h < _; omega) _⟩, hBq.setCell (p := ⟨h, q, none⟩) (by show w.heap.size ≤ h; omega) _⟩
                  refine ((unhide HQ).2.1.set hq _).congr (fun i hi => ?_)
                  have hh := unhide hct (i : Int)
                  by_cases e : i = q
                  · subst e
                    rw [if_pos rfl] at hh
                    simp only [if_true]
                    rw [unhide HVAL, hh, ← unhide HCV]
                    omega
                  · rw [if_neg (by omega)] at hh
                    simp only [e, if_false]
                    rw [hh]
                    omega
              · obtain rfl : j = M.length := by omega
                have hA4 := hide (And.intro (unhide HQ).1 ((unhide HQ).2.1.congr (f' := fA st (k + 1)) (fun i hi => by rw [List.take_length]; exact unhide nx7 i hi)))
                have hge : ¬ (M.length : Int) < (M.length : Int) := by omega
                clear HQ mem7 nx7
                go_wp2
                go_roundw
                case measure => simp [intOf]; omega
                case rel => exact ⟨k + 1, by omega, by go_num, hA4, hBq⟩
      · obtain rfl : k = 9 := by omega
        have hk8 : ¬ ((9 : Nat) : Int) ≤ 8 := by omega
        go_wp2
        go_loopw [10] (fun i wr => ∃ j : Nat, j ≤ len ∧ i = .int .i64 j ∧ Below wk.heap.size wk wr) (fun i _ => len - (intOf i).toNat)
        case atStart => exact ⟨0, Nat.zero_le _, rfl, Below.refl _ _⟩
        case round =>
          obtain ⟨j, hj, rfl, hBr⟩ := hrel
          have hBw : Below w.heap.size w wr := hB.trans (hBr.mono hsz)
          have sr := hBr.size
          by_cases hjl : j < len
          · obtain ⟨bs, os, rfl, hbs, hc⟩ := (unhide HS).keep hBw (by omega)
            obtain ⟨c0, c1, c2, c3, c4, c5⟩ := hc j hjl
            have g1 := ((unhide HA).1.keep hBr).2 j hjl
            have g2 := ((unhide HA).2.keep hBr).2 j hjl
            have gs := ((unhide HA).1.keep hBr).1
            have hs' := ((unhide HA).2.keep hBr).1
            have g1 := g1.1
            have g2 := g2.1
            have b0 : (0 : Int) ≤ (j : Int) := by omega
            have b1 : (j : Int) < (len : Int) := by omega
            obtain ⟨vo, hvo⟩ : ∃ v, v = fO st 9 j := ⟨_, rfl⟩
            obtain ⟨va, hva⟩ : ∃ v, v = fA st 9 j := ⟨_, rfl⟩
            rw [← hvo] at g1
            rw [← hva] at g2
            have t1 : (vo = 1 ∧ 0 ≤ st j 0 ∧ st j 0 ≤ 8) ∨ (vo = 0 ∧ ¬ 0 ≤ st j 0 ∧ (0 : Int) ≤ 0) ∨ (vo = 0 ∧ 0 ≤ st j 0 ∧ ¬ st j 0 ≤ 8) := by
              by_cases hh : 0 ≤ st j 0 ∧ st j 0 < ((9 : Nat) : Int)
              · have : vo = 1 := by rw [hvo]; unfold fO; rw [if_pos hh]
                omega
              · have : vo = 0 := by rw [hvo]; unfold fO; rw [if_neg hh]
                omega
            have t2 : (va = 1 ∧ 0 ≤ st j 2 ∧ st j 2 ≤ 8 ∧ 1 ≤ st j 1 ∧ st j 1 ≤ 3) ∨ (va = 0 ∧ ¬ 0 ≤ st j 2 ∧ (0 : Int) ≤ 0 ∧ (0 : Int) ≤ 0 ∧ (0 : Int) ≤ 0) ∨ (va = 0 ∧ 0 ≤ st j 2 ∧ ¬ st j 2 ≤ 8 ∧ (0 : Int) ≤ 0 ∧ (0 : Int) ≤ 0) ∨ (va = 0 ∧ 0 ≤ st j 2 ∧ st j 2 ≤ 8 ∧ ¬ 1 ≤ st j 1 ∧ (0 : Int) ≤ 0) ∨ (va = 0 ∧ 0 ≤ st j 2 ∧ st j 2 ≤ 8 ∧ 1 ≤ st j 1 ∧ ¬ st j 1 ≤ 3) := by
              by_cases hh : 0 ≤ st j 2 ∧ st j 2 < ((9 : Nat) : Int) ∧ 0 < st j 1 ∧ st j 1 ≤ 3
              · have : va = 1 := by rw [hva]; unfold fA; rw [if_pos hh]
                omega
              · have : va = 0 := by rw [hva]; unfold fA; rw [if_neg hh]
                omega
            clear hc hvo hva HA HAB hB0
            generalize st j 0 = s0 at *
            generalize st j 1 = s1 at *
            generalize st j 2 = s2 at *
            generalize st j 3 = s3 at *
            generalize st j 4 = s4 at *
            generalize st j 5 = s5 at *
            replace t1 : (vo = 1 ∧ 0 ≤ s0 ∧ s0 ≤ 8) ∨ (vo = 0 ∧ decide (0 ≤ s0) = false ∧ (0 : Int) ≤ 0) ∨ (vo = 0 ∧ 0 ≤ s0 ∧ decide (s0 ≤ 8) = false) := by simpa using t1
            replace t2 : (va = 1 ∧ 0 ≤ s2 ∧ s2 ≤ 8 ∧ 1 ≤ s1 ∧ s1 ≤ 3) ∨ (va = 0 ∧ decide (0 ≤ s2) = false ∧ (0 : Int) ≤ 0 ∧ (0 : Int) ≤ 0 ∧ (0 : Int) ≤ 0) ∨ (va = 0 ∧ 0 ≤ s2 ∧ decide (s2 ≤ 8) = false ∧ (0 : Int) ≤ 0 ∧ (0 : Int) ≤ 0) ∨ (va = 0 ∧ 0 ≤ s2 ∧ s2 ≤ 8 ∧ decide (1 ≤ s1) = false ∧ (0 : Int) ≤ 0) ∨ (va = 0 ∧ 0 ≤ s2 ∧ s2 ≤ 8 ∧ 1 ≤ s1 ∧ decide (s1 ≤ 3) = false) := by simpa using t2
            obtain ⟨W1, hW1⟩ : ∃ W1, W1 = wr.alloc (.cells #[.int .i64 s0, .int .i64 s1, .int .i64 s2, .int .u64 s3, .int .u64 s4, .int .u64 s5] 47) := ⟨_, rfl⟩
            have hB1 : Below wr.heap.size wr W1 := by rw [hW1]; repeat (first | exact Below.refl _ _ | assumption | refine Below.alloc ?_ (by first | (simp; done) | (simp; omega) | omega) _ | refine Below.setCell ?_ (by first | (simp; done) | (simp; omega) | omega) _ | apply Below.drew | refine Below.trans ?_ (Below.mono (by assumption) (by first | (simp; done) | (simp; omega) | omega)))
            have x0 : W1.cell? ⟨wr.heap.size, 0, none⟩ = some (.int .i64 s0) := by rw [hW1]; go_simp
            have x1 : W1.cell? ⟨wr.heap.size, 1, none⟩ = some (.int .i64 s1) := by rw [hW1]; go_simp
            have x2 : W1.cell? ⟨wr.heap.size, 2, none⟩ = some (.int .i64 s2) := by rw [hW1]; go_simp
            have y1 := (hB1.cell (p := ⟨g, j, none⟩) gs).trans g1
            have y2 := (hB1.cell (p := ⟨h, j, none⟩) hs').trans g2
            have H1 := hide hW1
            have HB1 := hide (show Below wk.heap.size wk W1 from hBr.trans (hB1.mono sr))
            clear hW1 g1 g2 hB1
            rcases t1 with ⟨rfl, t11, t12⟩ | ⟨rfl, t11, t12⟩ | ⟨rfl, t11, t12⟩
            all_goals rcases t2 with ⟨rfl, t21, t22, t23, t24⟩ | ⟨rfl, t21, t22, t23, t24⟩ | ⟨rfl, t21, t22, t23, t24⟩ | ⟨rfl, t21, t22, t23, t24⟩ | ⟨rfl, t21, t22, t23, t24⟩
            all_goals
              go_wp2
              rw [← unhide H1]
              clear c0 c1 c2 c3 c4 c5 H1
              go_quiet (fail)
              all_goals go_wp2
              go_roundw
              case measure => simp [intOf]; omega
              case rel => exact ⟨j + 1, by omega, by go_num, by first | exact below_drewN (unhide HB1) _ | exact unhide HB1⟩
          · obtain rfl : j = len := by omega
            have swr := hBw.size
            go_wp2_with (go_at_call 10; refine (works13_any _).mono ?_; rintro e ww ⟨rfl, hww⟩; obtain ⟨hcww, hfww⟩ := bcell hww; (try (simp only [World.size_drew, World.cell?_drew, World.frozen?_drew] at hcww hfww)); have hzww := hww.size; (try (simp only [World.size_alloc, World.size_setCell, World.size_drew] at hzww)); (try (have hzww_w_0 : w.heap.size < ww.heap.size := by omega)); (try (have hzww_w_1 : w.heap.size + 1 < ww.heap.size := by omega)); (try (have hzww_w_2 : w.heap.size + 1 + 1 < ww.heap.size := by omega)); (try (have hzww_w_3 : w.heap.size + 1 + 1 + 1 < ww.heap.size := by omega)); (try (have hyww_w : w.heap.size ≤ ww.heap.size := by omega)); (try (have hyww_wa : w.heap.size + 1 ≤ ww.heap.size := by omega)))
            go_ret
            exact ⟨rfl, by repeat (first | exact Below.refl _ _ | assumption | refine Below.alloc ?_ (by first | (simp; done) | (simp; omega) | omega) _ | refine Below.setCell ?_ (by first | (simp; done) | (simp; omega) | omega) _ | apply Below.drew | refine Below.trans ?_ (Below.mono (by assumption) (by first | (simp; done) | (simp; omega) | omega)))⟩
end Go.Proofs.Ytdkpadiaikfdpaa
