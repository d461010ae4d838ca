/- The walk of package log: a log done, for which steps change a word. -/
import Derived.Test.YtdkpadiaikfdpaaLgD
import Derived.Test.YtdkpadiaikfdpaaLgC
import Derived.Test.YtdkpadiaikfdpaaArF
namespace Go.Proofs.Ytdkpadiaikfdpaa
set_option linter.unusedVariables false
set_option linter.unusedSimpArgs false
open Go.RowKit

/-- Does a step change its word? -/
def chB (m : Nat) (z : Nat → Int) (st : Nat → Nat → Int) (k : Nat) : Bool := stoB (st k 1) (st k 3) (st k 5) && (st k 4 != doA m (aft m z st k) 1 (st k 2) 0 0)

/-- What play answers, and leaves, where the steps are collected. -/
def PlayCh (w w' : World) (po m : Nat) (z : Nat → Int) (st : Nat → Nat → Int) (len : Nat) (e : Ending) : Prop :=
  (((∀ i, i < len → okS m z st i = true) ∧ (∃ p, e = .returned (.tuple #[.agg #[.pointer p], .int .i64 0])) ∧ ∃ v base, w'.cell? ⟨po, 0, none⟩ = some v ∧ w'.ownsRow base 3 1 v (plc (chB m z st) len).length ((plc (chB m z st) len).map (.int .i64))) ∨
  ((∃ k, k < len ∧ okS m z st k = false) ∧ e = .returned (.tuple #[.agg #[.pointer none], .int .i64 220]))) ∧ ∀ B, B ≤ po → Below B w w'

set_option maxRecDepth 100000 in
set_option maxHeartbeats 4000000 in
theorem play_chg (pl po : Nat) (b o m cap : Nat) (z : Nat → Int) (hm1 : 1 ≤ m) (hm2 : m ≤ 16384) (A : Option Addr) (len cap2 : Nat) (st : Nat → Nat → Int) (hlen : len ≤ 1000) (w : World) (hb : b < w.heap.size)
    (hc : ∀ i, i < m → w.cell? ⟨b, o + i, none⟩ = some (.int .u64 (z i))) (hS : StOk w A len st) (hA : ∀ bs os, 0 < len → A = some ⟨bs, os, none⟩ → bs < po) (hplo : pl < po) (hpo : po < w.heap.size)
    (cl : w.cell? ⟨pl, 0, none⟩ = some (.slice A len cap2)) (co : w.cell? ⟨po, 0, none⟩ = some (.slice none 0 0)) (fo : w.frozen? ⟨po, 0, none⟩ = false) :
    Calls Try.prog 30 #[.slice (some ⟨b, o, none⟩) m cap, .slice A len cap2, .func (.func 33) #[] #[.pointer (some ⟨pl, 0, none⟩), .pointer (some ⟨po, 0, none⟩)]] w fun e w' => PlayCh w w' po m z st len e := by
  have HS := hide hS
  have cof := hide (lgof_yes b o m cap z hm1 hm2 (w.alloc (.cells #[.pointer none] 58)) (by simp; omega) (fun i hi => (World.cell?_alloc_lt _ _ _ hb).trans (hc i hi)))
  have CL := hide cl
  clear hc hS cl
  go_enter Try.func30, Try.ntmps30
  go_wp2
  refine wp_scope_fwd 0 rfl ?_
  go_wp2_with fail
  refine (unhide cof).mono ?_
  rintro e w1 ⟨g, h, rfl, hb1, hg, hh, H1⟩
  have q1 : w1.cell? ⟨w.heap.size, 0, none⟩ = some (.pointer none) := (hb1.cell (p := ⟨w.heap.size, 0, none⟩) (by simp)).trans (by go_simp)
  have q2 : w1.frozen? ⟨w.heap.size, 0, none⟩ = false := (hb1.frozen (p := ⟨w.heap.size, 0, none⟩) (by simp)).trans (by go_simp)
  have B1 : Below w.heap.size w w1 := ((Below.refl _ w).alloc (Nat.le_refl _) _).trans (hb1.mono (by simp))
  have hs1 := hb1.size
  simp only [World.size_alloc] at hs1 hg hh
  obtain ⟨W1, hW1⟩ : ∃ W, W = w1.setCell ⟨w.heap.size, 0, none⟩ (.pointer (some ⟨g, 0, none⟩)) := ⟨_, rfl⟩
  have p1 : W1.cell? ⟨w.heap.size, 0, none⟩ = some (.pointer (some ⟨g, 0, none⟩)) := by rw [hW1]; exact World.cell?_setCell_same _ _ _ q1
  have p2 : W1.frozen? ⟨w.heap.size, 0, none⟩ = false := by rw [hW1, World.frozen?_setCell]; exact q2
  have HA : Hid (IsAr W1 g h m z) := hide (by
    obtain ⟨a1, a2, a3, a4, a5, a6⟩ := H1
    rw [hW1]
    refine ⟨?_, by simpa using a2, by simpa using a3, a4, a5, fun i hi => ⟨?_, by rw [World.frozen?_setCell]; exact (a6 i hi).2⟩⟩
    · rw [World.cell?_setCell_other _ _ _ _ (fun e => by injection e with e _ _; omega)]
      exact a1
    · rw [World.cell?_setCell_other _ _ _ _ (fun e => by injection e with e _ _; omega)]
      exact (a6 i hi).1)
  have o1 : W1.cell? ⟨po, 0, none⟩ = some (.slice none 0 0) := by
    rw [hW1, World.cell?_setCell_other _ _ _ _ (fun e => by injection e with e _ _; omega)]
    exact (B1.cell (p := ⟨po, 0, none⟩) hpo).trans co
  have o2 : W1.frozen? ⟨po, 0, none⟩ = false := by
    rw [hW1, World.frozen?_setCell]
    exact (B1.frozen (p := ⟨po, 0, none⟩) hpo).trans fo
  have BW1 : Below w.heap.size w W1 := by rw [hW1]; exact B1.setCell (p := ⟨w.heap.size, 0, none⟩) (Nat.le_refl _) _
  have sW1 : w.heap.size + 1 ≤ W1.heap.size := by rw [hW1]; simpa using hs1
  have HW1 := hide hW1
  clear hW1 H1 hb1 cof B1
  go_wp2
  rw [← unhide HW1]
  have gW1 : g < W1.heap.size := (unhide HA).2.1
  have hW1' : h < W1.heap.size := (unhide HA).2.2.1
  clear q1 q2 HW1 co fo
  go_loopw [7, 23] (fun ev i wr => ∃ (k : Nat) (x : Int), k ≤ len ∧ i = .int .i64 k ∧ ev = .int .i64 x ∧ Hid (IsAr wr g h m (aft m z st k)) ∧ Below po w wr ∧ (wr.cell? ⟨w.heap.size, 0, none⟩ = some (.pointer (some ⟨g, 0, none⟩)) ∧ wr.frozen? ⟨w.heap.size, 0, none⟩ = false) ∧ W1.heap.size ≤ wr.heap.size ∧ Hid (∀ i, i < k → okS m z st i = true) ∧ ∃ v, (wr.cell? ⟨po, 0, none⟩ = some v ∧ wr.frozen? ⟨po, 0, none⟩ = false) ∧ Hid (wr.ownsRow W1.heap.size 3 1 v (plc (chB m z st) k).length ((plc (chB m z st) k).map (.int .i64)))) (fun _ i _ => len - (intOf i).toNat)
  case atStart => exact ⟨0, 0, Nat.zero_le _, rfl, rfl, HA, BW1.mono (by omega), ⟨p1, p2⟩, Nat.le_refl _, hide (fun i hi => absurd hi (by omega)), _, ⟨o1, o2⟩, hide (World.ownsRow_nil _ _ _ _)⟩
  case round =>
    obtain ⟨k, x, hk, rfl, rfl, HA, hB, ⟨i1, i2⟩, hsw, HOK, v, ⟨v1, v2⟩, HO⟩ := hrel
    by_cases hlt : k < len
    · obtain ⟨bs, os, rfl, hbs0, hc⟩ := (unhide HS) (by omega)
      have hbp : bs < po := hA bs os (by omega) rfl
      have hbs : bs < wr.heap.size := by omega
      obtain ⟨c0, c1, c2, c3, c4, c5⟩ := hc k hlt
      replace c0 := (hB.cell (p := ⟨bs, os + k * 6, none⟩) hbp).trans c0
      replace c1 := (hB.cell (p := ⟨bs, os + k * 6 + 1, none⟩) hbp).trans c1
      replace c2 := (hB.cell (p := ⟨bs, os + k * 6 + 2, none⟩) hbp).trans c2
      replace c3 := (hB.cell (p := ⟨bs, os + k * 6 + 3, none⟩) hbp).trans c3
      replace c4 := (hB.cell (p := ⟨bs, os + k * 6 + 4, none⟩) hbp).trans c4
      replace c5 := (hB.cell (p := ⟨bs, os + k * 6 + 5, none⟩) hbp).trans c5
      have b0 : (0 : Int) ≤ (k : Int) := by omega
      have b1 : (k : Int) < (len : Int) := by omega
      have swr : w.heap.size < wr.heap.size := by omega
      have hbne : wr.heap.size ≠ h := by have := (unhide HA).2.2.1; omega
      have hwne : w.heap.size ≠ h := by omega
      have hpne : po ≠ h := by omega
      have hlk := plc_len (chB m z st) k
      clear hc
      obtain ⟨V, hV⟩ : ∃ V, V = wr.alloc (.cells #[.int .i64 (st k 0), .int .i64 (st k 1), .int .i64 (st k 2), .int .u64 (st k 3), .int .u64 (st k 4), .int .u64 (st k 5)] 47) := ⟨_, rfl⟩
      have hBV : Below wr.heap.size wr V := by rw [hV]; repeat (first | exact Below.refl _ _ | assumption | refine Below.alloc ?_ (by first | (simp; done) | (simp; omega) | omega) _ | refine Below.setCell ?_ (by first | (simp; done) | (simp; omega) | omega) _ | apply Below.drew | refine Below.trans ?_ (Below.mono (by assumption) (by first | (simp; done) | (simp; omega) | omega)))
      have hsV : V.heap.size = wr.heap.size + 1 := by rw [hV]; simp
      have x1 : V.cell? ⟨wr.heap.size, 1, none⟩ = some (.int .i64 (st k 1)) := by rw [hV]; go_simp
      have x2 : V.cell? ⟨wr.heap.size, 2, none⟩ = some (.int .i64 (st k 2)) := by rw [hV]; go_simp
      have x3 : V.cell? ⟨wr.heap.size, 3, none⟩ = some (.int .u64 (st k 3)) := by rw [hV]; go_simp
      have x4 : V.cell? ⟨wr.heap.size, 4, none⟩ = some (.int .u64 (st k 4)) := by rw [hV]; go_simp
      have x5 : V.cell? ⟨wr.heap.size, 5, none⟩ = some (.int .u64 (st k 5)) := by rw [hV]; go_simp
      have HAV := hide ((unhide HA).keep hBV)
      have j1 := (hBV.cell (p := ⟨w.heap.size, 0, none⟩) swr).trans i1
      have j2 := (hBV.frozen (p := ⟨w.heap.size, 0, none⟩) swr).trans i2
      have v1V := (hBV.cell (p := ⟨po, 0, none⟩) (by show po < _; omega)).trans v1
      have v2V := (hBV.frozen (p := ⟨po, 0, none⟩) (by show po < _; omega)).trans v2
      have HOV := hide (ownsRow_below (unhide HO) hBV)
      have HV := hide hV
      clear hV
      go_wp2_with fail
      rw [← unhide HV]
      refine (ld_any g h m (aft m z st k) (st k 2) V (unhide HAV)).mono ?_
      rintro e w2 ⟨rfl, hg2, hA2⟩
      have k2 : KeptBut V.heap.size h V w2 := KeptBut.grown hg2 (Nat.le_refl _)
      have HA2 := hide hA2
      have y1 := k2.cell (by omega) hbne x1
      have y2 := k2.cell (by omega) hbne x2
      have y3 := k2.cell (by omega) hbne x3
      have y4 := k2.cell (by omega) hbne x4
      have y5 := k2.cell (by omega) hbne x5
      have l1 := k2.cell (by omega) hwne j1
      have v1W := k2.cell (by omega) hpne v1V
      have v2W := (k2.frozen (o := 0) (by omega : po < V.heap.size) hpne).trans v2V
      have hrow : ∀ r, v.ownBlock = some r → r ≠ h := fun r e => by have := ((unhide HOV).lt r e).1; omega
      have HOW := hide ((unhide HOV).kept hg2 (by
        cases e : v.ownBlock with
        | none => exact .inl rfl
        | some r => exact .inr (by have := hrow r e; simpa using this)))
      have s2 := hg2.size
      have G2 := hide hg2
      clear x1 x2 x3 x4 x5 c0 c1 c2 c3 c4 c5 hA2 hg2 k2 HV HAV HA i1 i2 j1 v1 v2 v1V v2V HO HOV
      go_wp2_with fail
      refine (do_any g h m (aft m z st k) (st k 1) (st k 2) (st k 3) (st k 4) w2 (unhide HA2)).mono ?_
      rintro e w3 ⟨rfl, hg3, hA3⟩
      have k3 : KeptBut w2.heap.size h w2 w3 := KeptBut.grown hg3 (Nat.le_refl _)
      have y5' := k3.cell (by omega) hbne y5
      have l1' := k3.cell (by omega) hwne l1
      have v1' := k3.cell (by omega) hpne v1W
      have v2' := (k3.frozen (o := 0) (by omega : po < w2.heap.size) hpne).trans v2W
      have HO3 := hide ((unhide HOW).kept hg3 (by
        cases e : v.ownBlock with
        | none => exact .inl rfl
        | some r => exact .inr (by have := hrow r e; simpa using this)))
      have s3 := hg3.size
      have HA3 := hide hA3
      have hfz : w3.frozen? ⟨w.heap.size, 0, none⟩ = false := by
        have e1 := (unhide G2).block w.heap.size (by omega) (by simpa using hwne)
        have e2 := hg3.block w.heap.size (by omega) (by simpa using hwne)
        have := j2
        unfold World.frozen? at this ⊢
        rw [e2, e1]
        exact this
      have hB3 : Below po w w3 := ((hB.trans (hBV.mono (by omega))).grown (unhide G2) (by omega) (fun k e => by cases e; omega)).grown hg3 (by omega) (fun k e => by cases e; omega)
      have hS3 : StOk w3 (some ⟨bs, os, none⟩) len st := fun hl => by
        obtain ⟨b', o', e', _, hc'⟩ := unhide HS hl
        injection e' with e'
        injection e' with e1 e2 _
        subst e1 e2
        refine ⟨bs, os, rfl, by omega, fun i hi => ?_⟩
        obtain ⟨d0, d1, d2, d3, d4, d5⟩ := hc' i hi
        exact ⟨(hB3.cell (p := ⟨bs, os + i * 6, none⟩) hbp).trans d0, (hB3.cell (p := ⟨bs, os + i * 6 + 1, none⟩) hbp).trans d1, (hB3.cell (p := ⟨bs, os + i * 6 + 2, none⟩) hbp).trans d2, (hB3.cell (p := ⟨bs, os + i * 6 + 3, none⟩) hbp).trans d3,
          (hB3.cell (p := ⟨bs, os + i * 6 + 4, none⟩) hbp).trans d4, (hB3.cell (p := ⟨bs, os + i * 6 + 5, none⟩) hbp).trans d5⟩
      have cl3 := (hB3.cell (p := ⟨pl, 0, none⟩) hplo).trans (unhide CL)
      have HCH := hide (fun was => chg1_any pl po W1.heap.size bs os len cap2 st k hlt (by omega) was v (plc (chB m z st) k) (by omega) w3 cl3 v1' v2' (by omega) (by omega) (by omega) (by omega) (by omega) hS3 (unhide HO3))
      have hch : (if stoB (st k 1) (st k 3) (st k 5) && (st k 4 != doA m (aft m z st k) 1 (st k 2) 0 0) then plc (chB m z st) k ++ [(k : Int)] else plc (chB m z st) k) = plc (chB m z st) (k + 1) := rfl
      have HCH2 := unhide HCH (doA m (aft m z st k) 1 (st k 2) 0 0)
      rw [hch] at HCH2
      have HCH2 := hide HCH2
      have hok : okS m z st k = (decide (doE m (st k 1) (st k 2) (st k 3) (st k 4) = 0) && decide (doA m (aft m z st k) (st k 1) (st k 2) (st k 3) (st k 4) = st k 5)) := rfl
      have HNX : Hid (IsAr w3 g h m (aft m z st (k + 1))) := HA3
      clear y1 y2 y3 y4 y5 l1 j2 hg3 hA3 k3 G2 HA2 HA3 hB hBV cl3 HCH hch hS3 v1' v2' v1W v2W hrow HOW HO3
      generalize doE m (st k 1) (st k 2) (st k 3) (st k 4) = E at hok
      generalize doA m (aft m z st k) (st k 1) (st k 2) (st k 3) (st k 4) = D at hok
      have hthree : ((E != 0) = false ∧ (D != st k 5) = false ∧ okS m z st k = true) ∨ ((E != 0) = false ∧ (D != st k 5) = true ∧ okS m z st k = false) ∨ ((E != 0) = true ∧ True ∧ okS m z st k = false) := by
        by_cases hE : E = 0
        · by_cases hD : D = st k 5
          · exact .inl ⟨by simpa using hE, by simpa using hD, by rw [hok]; simp [hE, hD]⟩
          · exact .inr (.inl ⟨by simpa using hE, by simpa using hD, by rw [hok]; simp [hD]⟩)
        · exact .inr (.inr ⟨by simpa using hE, trivial, by rw [hok]; simp [hE]⟩)
      clear hok
      rcases hthree with ⟨h4, h5, h6⟩ | ⟨h4, h5, h6⟩ | ⟨h4, h5, h6⟩
      · have H6 := hide h6
        clear h6
        go_wp2_with fail
        refine (unhide HCH2).mono ?_
        rintro e w4 ⟨r, v', rfl, u1, u2, u3, u4, u5⟩
        have HO4 := hide u3
        have n1 := u4.cell (b := w.heap.size) (by omega) (by omega) l1'
        have n2 := (u4.frozen (b := w.heap.size) (o := 0) (by omega) (by omega)).trans hfz
        have HN4 : Hid (IsAr w4 g h m (aft m z st (k + 1))) := hide (by
          obtain ⟨a1, a2, a3, a4, a5, a6⟩ := unhide HNX
          have s4 := u4.1
          exact ⟨u4.cell gW1 (by omega) a1, by omega, by omega, a4, a5, fun i hi => ⟨u4.cell hW1' (by omega) (a6 i hi).1, (u4.frozen hW1' (by omega)).trans (a6 i hi).2⟩⟩)
        have hB4 : Below po w w4 := hB3.trans (u5 po (Nat.le_refl _))
        have s4 := u4.1
        clear u3 u4 u5 HNX
        go_wp2
        go_roundw
        case measure => simp [intOf]; omega
        case rel => exact ⟨k + 1, 220, by omega, by go_num, rfl, HN4, hB4, ⟨n1, n2⟩, by omega, hide (fun i hi => by
          by_cases e : i = k
          · rw [e]; exact unhide H6
          · exact unhide HOK i (by omega)), v', ⟨u1, u2⟩, HO4⟩
      all_goals
        have H6 := hide h6
        have z3 : w.heap.size < w3.heap.size := by omega
        clear h6
        go_wp2
        (go_step3; refine fwd_goto ?_; go_wp2)
        (first | rw [fwd_ret] | rw [Exit.noGoto_ret] | skip)
        refine bodyPost_ret (v := .tuple #[.agg #[.pointer none], .int .i64 220]) (by simp only [results, Try.results30]; go_simp) rfl ?_
        exact ⟨.inr ⟨⟨k, hlt, unhide H6⟩, rfl⟩, fun B hB => (hB3.mono hB).setCell (p := ⟨w.heap.size, 0, none⟩) (by show B ≤ w.heap.size; omega) _⟩
    · obtain rfl : k = len := by omega
      go_wp2
      (first | rw [fwd_ret] | rw [Exit.noGoto_ret] | skip)
      refine bodyPost_ret (v := .tuple #[.agg #[.pointer (some ⟨g, 0, none⟩)], .int .i64 0]) (by simp only [results, Try.results30]; go_simp) rfl ?_
      refine ⟨.inl ⟨fun i hi => unhide HOK i hi, ⟨_, rfl⟩, v, W1.heap.size, ?_, ?_⟩, fun B hB' => (hB.mono hB').setCell (p := ⟨w.heap.size, 0, none⟩) (by show B ≤ w.heap.size; omega) _⟩
      · rw [World.cell?_setCell_other _ _ _ _ (fun e => by injection e with e _ _; omega)]
        exact v1
      · exact ownsRow_setCell_below (unhide HO) (a := ⟨w.heap.size, 0, none⟩) (by show w.heap.size < _; omega) _
end Go.Proofs.Ytdkpadiaikfdpaa
