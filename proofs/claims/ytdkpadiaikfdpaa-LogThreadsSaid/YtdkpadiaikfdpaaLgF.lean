/- The walk of package log: a log done, for its end. -/
import Derived.Test.YtdkpadiaikfdpaaLgC
import Derived.Test.YtdkpadiaikfdpaaArF
import Derived.Outline
namespace Go.Proofs.Ytdkpadiaikfdpaa
set_option linter.unusedVariables false
set_option linter.unusedSimpArgs false
open Go.RowKit

/-- What play answers, and leaves. -/
def PlayTo (w w' : World) (m : Nat) (z : Nat → Int) (st : Nat → Nat → Int) (len : Nat) (e : Ending) : Prop :=
  ((∀ i, i < len → okS m z st i = true) ∧ ∃ g h, e = .returned (.tuple #[.agg #[.pointer (some ⟨g, 0, none⟩)], .int .i64 0]) ∧ w.heap.size ≤ g ∧ w.heap.size ≤ h ∧ IsAr w' g h m (aft m z st len)) ∨
  ((∃ k, k < len ∧ okS m z st k = false) ∧ e = .returned (.tuple #[.agg #[.pointer none], .int .i64 220]))

theorem end1_any (a c : Value) (w : World) : Calls Try.prog 31 #[a, c] w fun e w' => w = w' ∧ ∃ r, e = .returned r := by
  go_enter Try.func31, Try.ntmps31
  go_wp2
  go_end0
  exact ⟨rfl, _, rfl⟩

set_option maxRecDepth 100000 in
set_option maxHeartbeats 4000000 in
theorem play_end (b o m cap : Nat) (z : Nat → Int) (hm1 : 1 ≤ m) (hm2 : m ≤ 16384) (A : Option Addr) (len cap2 : Nat) (st : Nat → Nat → Int) (hlen : len ≤ 9223372036854775807) (w : World) (hb : b < w.heap.size)
    (hc : ∀ i, i < m → w.cell? ⟨b, o + i, none⟩ = some (.int .u64 (z i))) (hS : StOk w A len st) :
    Calls Try.prog 30 #[.slice (some ⟨b, o, none⟩) m cap, .slice A len cap2, .func (.func 31) #[] #[]] w fun e w' => PlayTo w w' m z st len e ∧ Below w.heap.size w w' := by
  have HS := hide hS
  have cof := hide (lgof_yes b o m cap z hm1 hm2 (w.alloc (.cells #[.pointer none] 58)) (by simp; omega) (fun i hi => (World.cell?_alloc_lt _ _ _ hb).trans (hc i hi)))
  clear hc hS
  go_enter Try.func30, Try.ntmps30
  go_wp2
  refine wp_scope_fwd 0 rfl ?_
  go_wp2_with fail
  refine (unhide cof).mono ?_
  rintro e w1 ⟨g, h, rfl, hb1, hg, hh, H1⟩
  have q1 : w1.cell? ⟨w.heap.size, 0, none⟩ = some (.pointer none) := (hb1.cell (p := ⟨w.heap.size, 0, none⟩) (by simp)).trans (by go_simp)
  have q2 : w1.frozen? ⟨w.heap.size, 0, none⟩ = false := (hb1.frozen (p := ⟨w.heap.size, 0, none⟩) (by simp)).trans (by go_simp)
  have B1 : Below w.heap.size w w1 := ((Below.refl _ w).alloc (Nat.le_refl _) _).trans (hb1.mono (by simp))
  have hs1 := hb1.size
  simp only [World.size_alloc] at hs1 hg hh
  obtain ⟨W1, hW1⟩ : ∃ W, W = w1.setCell ⟨w.heap.size, 0, none⟩ (.pointer (some ⟨g, 0, none⟩)) := ⟨_, rfl⟩
  have p1 : W1.cell? ⟨w.heap.size, 0, none⟩ = some (.pointer (some ⟨g, 0, none⟩)) := by rw [hW1]; exact World.cell?_setCell_same _ _ _ q1
  have p2 : W1.frozen? ⟨w.heap.size, 0, none⟩ = false := by rw [hW1, World.frozen?_setCell]; exact q2
  have HA : Hid (IsAr W1 g h m z) := hide (by
    obtain ⟨a1, a2, a3, a4, a5, a6⟩ := H1
    rw [hW1]
    refine ⟨?_, by simpa using a2, by simpa using a3, a4, a5, fun i hi => ⟨?_, by rw [World.frozen?_setCell]; exact (a6 i hi).2⟩⟩
    · rw [World.cell?_setCell_other _ _ _ _ (fun e => by injection e with e _ _; omega)]
      exact a1
    · rw [World.cell?_setCell_other _ _ _ _ (fun e => by injection e with e _ _; omega)]
      exact (a6 i hi).1)
  have BW1 : Below w.heap.size w W1 := by rw [hW1]; exact B1.setCell (p := ⟨w.heap.size, 0, none⟩) (Nat.le_refl _) _
  have sW1 : w.heap.size + 1 ≤ W1.heap.size := by rw [hW1]; simpa using hs1
  have HW1 := hide hW1
  clear hW1 H1 hb1 cof B1
  go_wp2
  rw [← unhide HW1]
  clear q1 q2 HW1
  go_loopw [7, 23] (fun ev i wr => ∃ (k : Nat) (x : Int), k ≤ len ∧ i = .int .i64 k ∧ ev = .int .i64 x ∧ Hid (IsAr wr g h m (aft m z st k)) ∧ Below w.heap.size w wr ∧ (wr.cell? ⟨w.heap.size, 0, none⟩ = some (.pointer (some ⟨g, 0, none⟩)) ∧ wr.frozen? ⟨w.heap.size, 0, none⟩ = false) ∧ W1.heap.size ≤ wr.heap.size ∧ Hid (∀ i, i < k → okS m z st i = true)) (fun _ i _ => len - (intOf i).toNat)
  case atStart => exact ⟨0, 0, Nat.zero_le _, rfl, rfl, HA, BW1, ⟨p1, p2⟩, Nat.le_refl _, hide (fun i hi => absurd hi (by omega))⟩
  case round =>
    obtain ⟨k, x, hk, rfl, rfl, HA, hB, ⟨i1, i2⟩, hsw, HOK⟩ := hrel
    by_cases hlt : k < len
    · obtain ⟨bs, os, rfl, hbs, hc⟩ := (unhide HS).keep hB (by omega)
      obtain ⟨c0, c1, c2, c3, c4, c5⟩ := hc k hlt
      have b0 : (0 : Int) ≤ (k : Int) := by omega
      have b1 : (k : Int) < (len : Int) := by omega
      have swr : w.heap.size < wr.heap.size := by omega
      have hbne : wr.heap.size ≠ h := by have := (unhide HA).2.2.1; omega
      have hwne : w.heap.size ≠ h := by omega
      clear hc
      obtain ⟨V, hV⟩ : ∃ V, V = wr.alloc (.cells #[.int .i64 (st k 0), .int .i64 (st k 1), .int .i64 (st k 2), .int .u64 (st k 3), .int .u64 (st k 4), .int .u64 (st k 5)] 47) := ⟨_, rfl⟩
      have hBV : Below wr.heap.size wr V := by rw [hV]; repeat (first | exact Below.refl _ _ | assumption | refine Below.alloc ?_ (by first | (simp; done) | (simp; omega) | omega) _ | refine Below.setCell ?_ (by first | (simp; done) | (simp; omega) | omega) _ | apply Below.drew | refine Below.trans ?_ (Below.mono (by assumption) (by first | (simp; done) | (simp; omega) | omega)))
      have hsV : V.heap.size = wr.heap.size + 1 := by rw [hV]; simp
      have x1 : V.cell? ⟨wr.heap.size, 1, none⟩ = some (.int .i64 (st k 1)) := by rw [hV]; go_simp
      have x2 : V.cell? ⟨wr.heap.size, 2, none⟩ = some (.int .i64 (st k 2)) := by rw [hV]; go_simp
      have x3 : V.cell? ⟨wr.heap.size, 3, none⟩ = some (.int .u64 (st k 3)) := by rw [hV]; go_simp
      have x4 : V.cell? ⟨wr.heap.size, 4, none⟩ = some (.int .u64 (st k 4)) := by rw [hV]; go_simp
      have x5 : V.cell? ⟨wr.heap.size, 5, none⟩ = some (.int .u64 (st k 5)) := by rw [hV]; go_simp
      have HAV := hide ((unhide HA).keep hBV)
      have j1 := (hBV.cell (p := ⟨w.heap.size, 0, none⟩) swr).trans i1
      have j2 := (hBV.frozen (p := ⟨w.heap.size, 0, none⟩) swr).trans i2
      have HV := hide hV
      clear hV
      go_wp2_with fail
      rw [← unhide HV]
      refine (ld_any g h m (aft m z st k) (st k 2) V (unhide HAV)).mono ?_
      rintro e w2 ⟨rfl, hg2, hA2⟩
      have k2 : KeptBut V.heap.size h V w2 := KeptBut.grown hg2 (Nat.le_refl _)
      have HA2 := hide hA2
      have y1 := k2.cell (by omega) hbne x1
      have y2 := k2.cell (by omega) hbne x2
      have y3 := k2.cell (by omega) hbne x3
      have y4 := k2.cell (by omega) hbne x4
      have y5 := k2.cell (by omega) hbne x5
      have l1 := k2.cell (by omega) hwne j1
      have s2 := hg2.size
      have G2 := hide hg2
      clear x1 x2 x3 x4 x5 c0 c1 c2 c3 c4 c5 hA2 hg2 k2 HV HAV HA i1 i2 j1
      go_wp2_with fail
      refine (do_any g h m (aft m z st k) (st k 1) (st k 2) (st k 3) (st k 4) w2 (unhide HA2)).mono ?_
      rintro e w3 ⟨rfl, hg3, hA3⟩
      have k3 : KeptBut w2.heap.size h w2 w3 := KeptBut.grown hg3 (Nat.le_refl _)
      have y5' := k3.cell (by omega) hbne y5
      have l1' := k3.cell (by omega) hwne l1
      have s3 := hg3.size
      have HA3 := hide hA3
      have hfz : w3.frozen? ⟨w.heap.size, 0, none⟩ = false := by
        have e1 := (unhide G2).block w.heap.size (by omega) (by simpa using hwne)
        have e2 := hg3.block w.heap.size (by omega) (by simpa using hwne)
        have := j2
        unfold World.frozen? at this ⊢
        rw [e2, e1]
        exact this
      have hB3 : Below w.heap.size w w3 := ((hB.trans (hBV.mono (by omega))).grown (unhide G2) (by omega) (fun k e => by cases e; omega)).grown hg3 (by omega) (fun k e => by cases e; omega)
      have hok : okS m z st k = (decide (doE m (st k 1) (st k 2) (st k 3) (st k 4) = 0) && decide (doA m (aft m z st k) (st k 1) (st k 2) (st k 3) (st k 4) = st k 5)) := rfl
      have HNX : Hid (IsAr w3 g h m (aft m z st (k + 1))) := HA3
      clear y1 y2 y3 y4 y5 l1 j2 hg3 hA3 k3 G2 HA2 HA3 hB hBV
      generalize doE m (st k 1) (st k 2) (st k 3) (st k 4) = E at hok
      generalize doA m (aft m z st k) (st k 1) (st k 2) (st k 3) (st k 4) = D at hok
      have hthree : ((E != 0) = false ∧ (D != st k 5) = false ∧ okS m z st k = true) ∨ ((E != 0) = false ∧ (D != st k 5) = true ∧ okS m z st k = false) ∨ ((E != 0) = true ∧ True ∧ okS m z st k = false) := by
        by_cases hE : E = 0
        · by_cases hD : D = st k 5
          · exact .inl ⟨by simpa using hE, by simpa using hD, by rw [hok]; simp [hE, hD]⟩
          · exact .inr (.inl ⟨by simpa using hE, by simpa using hD, by rw [hok]; simp [hD]⟩)
        · exact .inr (.inr ⟨by simpa using hE, trivial, by rw [hok]; simp [hE]⟩)
      clear hok
      rcases hthree with ⟨h4, h5, h6⟩ | ⟨h4, h5, h6⟩ | ⟨h4, h5, h6⟩
      · have H6 := hide h6
        clear h6
        go_wp2_with (go_at_call 31; refine (end1_any _ _ _).mono ?_; rintro e w4 ⟨hw4, r, rfl⟩; subst hw4)
        go_roundw
        case measure => simp [intOf]; omega
        case rel => exact ⟨k + 1, 220, by omega, by go_num, rfl, HNX, hB3, ⟨l1', hfz⟩, by omega, hide (fun i hi => by
          by_cases e : i = k
          · rw [e]; exact unhide H6
          · exact unhide HOK i (by omega))⟩
      all_goals
        have H6 := hide h6
        have z3 : w.heap.size < w3.heap.size := by omega
        clear h6
        go_wp2
        (go_step3; refine fwd_goto ?_; go_wp2)
        (first | rw [fwd_ret] | rw [Exit.noGoto_ret] | skip)
        refine bodyPost_ret (v := .tuple #[.agg #[.pointer none], .int .i64 220]) (by simp only [results, Try.results30]; go_simp) rfl ?_
        exact ⟨.inr ⟨⟨k, hlt, unhide H6⟩, rfl⟩, hB3.setCell (p := ⟨w.heap.size, 0, none⟩) (Nat.le_refl _) _⟩
    · obtain rfl : k = len := by omega
      go_wp2
      (first | rw [fwd_ret] | rw [Exit.noGoto_ret] | skip)
      refine bodyPost_ret (v := .tuple #[.agg #[.pointer (some ⟨g, 0, none⟩)], .int .i64 0]) (by simp only [results, Try.results30]; go_simp) rfl ?_
      refine ⟨.inl ⟨fun i hi => unhide HOK i hi, g, h, rfl, by omega, by omega, ?_⟩, hB.setCell (p := ⟨w.heap.size, 0, none⟩) (Nat.le_refl _) _⟩
      obtain ⟨a1, a2, a3, a4, a5, a6⟩ := unhide HA
      refine ⟨?_, by simpa using a2, by simpa using a3, a4, a5, fun i hi => ⟨?_, by rw [World.frozen?_setCell]; exact (a6 i hi).2⟩⟩
      · rw [World.cell?_setCell_other _ _ _ _ (fun e => by injection e with e _ _; omega)]
        exact a1
      · rw [World.cell?_setCell_other _ _ _ _ (fun e => by injection e with e _ _; omega)]
        exact (a6 i hi).1
end Go.Proofs.Ytdkpadiaikfdpaa
