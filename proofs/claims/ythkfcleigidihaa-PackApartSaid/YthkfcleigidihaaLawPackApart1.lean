/- The walk of PackApart where the current space is 1: it returns true. -/
import Derived.Test.YthkfcleigidihaaLawPackApartE
namespace Go.Proofs.Ythkfcleigidihaa
set_option linter.unusedVariables false
set_option linter.unusedSimpArgs false
open Go.RowKit

set_option maxRecDepth 100000 in
set_option maxHeartbeats 16000000 in
theorem packApart_walk1 (l h d : Int) (A : Option Addr) (len cap : Nat) (w : World) (hr : RowOk w 5 [.int .i64, .int .i64] A len cap) (hq : rightB 1 l h d = true) (hl : ¬ 40 < len) :
    Calls Try.prog 7 #[.agg #[.int .i64 1, .int .i64 l, .int .i64 h, .int .i64 d], .slice A len cap] w fun e w' => e = .returned (.bool true) ∧ Below w.heap.size w w' := by
  have hm := hr.1
  have hm2 := hr.2.1
  unfold maxLen at hm2
  obtain ⟨b, o, z, hA, hc⟩ := hr.intN [.i64, .i64]
  clear hr
  have HA := hide hA
  have HC := hide hc
  clear hA hc
  have hb := rightB_iff.1 hq
  have HQ := hide hq
  go_enter Try.func7, Try.ntmps7
  go_wp2_with fail
  (refine (usedOf _ _ _ _ hq _).mono ?_); rintro e w1 ⟨rfl, hw1⟩; obtain ⟨hcw1, hfw1⟩ := bcell hw1; (try (simp only [World.size_drew, World.cell?_drew, World.frozen?_drew] at hcw1 hfw1)); have hzw1 := hw1.size; (try (simp only [World.size_alloc, World.size_setCell, World.size_drew] at hzw1)); (try (have hzw1_w_0 : w.heap.size < w1.heap.size := by omega)); (try (have hzw1_w_1 : w.heap.size + 1 < w1.heap.size := by omega)); (try (have hzw1_w_2 : w.heap.size + 1 + 1 < w1.heap.size := by omega)); (try (have hzw1_w_3 : w.heap.size + 1 + 1 + 1 < w1.heap.size := by omega)); (try (have hyw1_w : w.heap.size ≤ w1.heap.size := by omega)); (try (have hyw1_wa : w.heap.size + 1 ≤ w1.heap.size := by omega))
  clear hq
  go_wp2_with (go_at_call 12; refine (num_any _ _).mono ?_; rintro e w' ⟨rfl, rfl⟩)
  go_loopw [8, 9] (fun sm i wr => ∃ (k : Nat) (l' d' : Int), k ≤ len ∧ i = .int .i64 k ∧ sm = .int .i64 ((l' - l) + (d' - d)) ∧ rightB 1 l' h d' = true ∧ Apart 1 h w.heap.size w1.heap.size l' d' d' l' wr ∧ w1.heap.size < wr.heap.size ∧ Below w.heap.size w wr) (fun _ i _ => len - (intOf i).toNat)
  case atStart =>
    refine ⟨0, l, d, by omega, rfl, by go_num, unhide HQ, ⟨⟨?_, ?_, ?_, ?_⟩, ⟨?_, ?_, ?_, ?_⟩, ⟨?_, ?_⟩, ?_, ?_⟩, ?_, ?_⟩
    all_goals first | (go_simp; done) | (simp; omega) | skip
    repeat (first | exact Below.refl _ _ | assumption | refine Below.alloc ?_ (by first | (simp; done) | (simp; omega) | omega) _ | refine Below.setCell ?_ (by first | (simp; done) | (simp; omega) | omega) _ | apply Below.drew | refine Below.trans ?_ (Below.mono (by assumption) (by first | (simp; done) | (simp; omega) | omega)))
  case round =>
    obtain ⟨k, l', d', hk, rfl, rfl, hR, hAw, hs1, hB⟩ := hrel
    have HAW := hide hAw
    obtain ⟨⟨x0, x1, x2, x3⟩, ⟨fx0, fx1, fx2, fx3⟩, ⟨y0, y1⟩, fy0, fy1⟩ := hAw
    have hne : w.heap.size ≠ w1.heap.size := by omega
    have hww : w.heap.size ≤ w1.heap.size := by omega
    have hsz := hB.size
    have hs0 : w.heap.size < wr.heap.size := by omega
    have hs2 : w1.heap.size ≤ wr.heap.size := Nat.le_of_lt hs1
    have hb' := rightB_iff.1 hR
    have HR := hide hR
    clear hR
    by_cases hlt : k < len
    · obtain ⟨rfl, hb⟩ := unhide HA (by omega)
      have hcell0 : wr.cell? ⟨b, o + k * 2, none⟩ = some (.int .i64 (z k 0)) := (hB.cell (p := ⟨b, o + k * 2, none⟩) hb).trans (unhide HC k hlt 0 .i64 rfl).1
      have hcell1 : wr.cell? ⟨b, o + k * 2 + 1, none⟩ = some (.int .i64 (z k 1)) := (hB.cell (p := ⟨b, o + k * 2 + 1, none⟩) hb).trans (unhide HC k hlt 1 .i64 rfl).1
      have hbr : b < wr.heap.size := Nat.lt_of_lt_of_le hb hB.size
      have hbr1 : b ≤ wr.heap.size := Nat.le_of_lt hbr
      have bk0 : (0 : Int) ≤ (k : Int) := by omega
      have bk1 : (k : Int) < (len : Int) := by omega
      by_cases hok : clOk 1 l' h d' (z k 0) (z k 1) = true
      · have hcl := (clOk_iff.1 hok).2
        by_cases hsp : z k 0 = 1
        · rw [hsp] at hcell0 hok
          have HK := hide hok
          clear hok hsp HA HC hcw1 hfw1
          go_upto_region 11 with fail
          go_cut [10, 11, 12] (fun s10 s11 s12 wx => ∃ p, s10 = .pointer (some ⟨p, 0, none⟩) ∧ s11 = .int .i64 (l') ∧ s12 = .int .i64 (0) ∧ wr.heap.size ≤ p ∧ p < wx.heap.size ∧ Below wr.heap.size wr wx ∧ Hid (P4 wx p (1) (l' + z k 1) (h) (d')))
          case first =>
            go_region_held3 (fun W => Below wr.heap.size wr W ∧ W.cell? ⟨b, o + k * 2, none⟩ = some (.int .i64 1) ∧ W.cell? ⟨b, o + k * 2 + 1, none⟩ = some (.int .i64 (z k 1)) ∧ W.cell? ⟨w.heap.size, 0, none⟩ = some (.int .i64 1) ∧ W.cell? ⟨w.heap.size, 1, none⟩ = some (.int .i64 l') ∧ W.cell? ⟨w.heap.size, 2, none⟩ = some (.int .i64 h) ∧ W.cell? ⟨w.heap.size, 3, none⟩ = some (.int .i64 d')) (((refine and_dep ?_ (fun hkq => ⟨(hkq.cell (p := ⟨b, o + k * 2, none⟩) hbr).trans hcell0, (hkq.cell (p := ⟨b, o + k * 2 + 1, none⟩) hbr).trans hcell1, (hkq.cell (p := ⟨w.heap.size, 0, none⟩) hs0).trans x0, (hkq.cell (p := ⟨w.heap.size, 1, none⟩) hs0).trans x1, (hkq.cell (p := ⟨w.heap.size, 2, none⟩) hs0).trans x2, (hkq.cell (p := ⟨w.heap.size, 3, none⟩) hs0).trans x3⟩)); go_split_ands; repeat (first | exact Below.refl _ _ | assumption | refine Below.alloc ?_ (by first | (simp; done) | (simp; omega) | omega) _ | refine Below.setCell ?_ (by first | (simp; done) | (simp; omega) | omega) _ | apply Below.drew | refine Below.trans ?_ (Below.mono (by assumption) (by first | (simp; done) | (simp; omega) | omega)))))
              ((go_at_call 19; refine (claim_same _ _ _ _ _ (unhide HK) _).mono ?_; rintro e w3 ⟨rfl, hw3⟩; obtain ⟨hcw3, hfw3⟩ := bcell hw3; (try (simp only [World.size_drew, World.cell?_drew, World.frozen?_drew] at hcw3 hfw3)); have hzw3 := hw3.size; (try (simp only [World.size_alloc, World.size_setCell, World.size_drew] at hzw3)); (try (have hzw3_w_0 : w.heap.size < w3.heap.size := by omega)); (try (have hzw3_w_1 : w.heap.size + 1 < w3.heap.size := by omega)); (try (have hzw3_w_2 : w.heap.size + 1 + 1 < w3.heap.size := by omega)); (try (have hzw3_w_3 : w.heap.size + 1 + 1 + 1 < w3.heap.size := by omega)); (try (have hyw3_w : w.heap.size ≤ w3.heap.size := by omega)); (try (have hyw3_wa : w.heap.size + 1 ≤ w3.heap.size := by omega)); (try (have hzw3_w1_0 : w1.heap.size < w3.heap.size := by omega)); (try (have hzw3_w1_1 : w1.heap.size + 1 < w3.heap.size := by omega)); (try (have hzw3_w1_2 : w1.heap.size + 1 + 1 < w3.heap.size := by omega)); (try (have hzw3_w1_3 : w1.heap.size + 1 + 1 + 1 < w3.heap.size := by omega)); (try (have hyw3_w1 : w1.heap.size ≤ w3.heap.size := by omega)); (try (have hyw3_w1a : w1.heap.size + 1 ≤ w3.heap.size := by omega)); (try (have hzw3_wr_0 : wr.heap.size < w3.heap.size := by omega)); (try (have hzw3_wr_1 : wr.heap.size + 1 < w3.heap.size := by omega)); (try (have hzw3_wr_2 : wr.heap.size + 1 + 1 < w3.heap.size := by omega)); (try (have hzw3_wr_3 : wr.heap.size + 1 + 1 + 1 < w3.heap.size := by omega)); (try (have hyw3_wr : wr.heap.size ≤ w3.heap.size := by omega)); (try (have hyw3_wra : wr.heap.size + 1 ≤ w3.heap.size := by omega)); (have hbw3 : b < w3.heap.size := by omega); (have hblw3 : b ≤ w3.heap.size := by omega)))
            all_goals go_wp2_with fail
            all_goals go_meet
            all_goals exact ⟨_, rfl, rfl, rfl, by first | (simp; done) | (simp; omega) | omega, by first | (simp; done) | (simp; omega) | omega, by repeat (first | exact Below.refl _ _ | assumption | refine Below.alloc ?_ (by first | (simp; done) | (simp; omega) | omega) _ | refine Below.setCell ?_ (by first | (simp; done) | (simp; omega) | omega) _ | apply Below.drew | refine Below.trans ?_ (Below.mono (by assumption) (by first | (simp; done) | (simp; omega) | omega))), hide ⟨by go_simp, by go_simp, by go_simp, by go_simp⟩⟩
          case rest =>
            obtain ⟨p, rfl, rfl, rfl, hp1, hp2, hBx, HP⟩ := hcut
            obtain ⟨wx, hwx⟩ : ∃ wx, wx = wc := ⟨_, rfl⟩
            subst hwx
            have hB3 : Below w.heap.size w wx := hB.trans (hBx.mono hsz)
            have hA3 := hide ((unhide HAW).keep hs0 hs1 hBx)
            have hs3 : w1.heap.size < wx.heap.size := Nat.lt_of_lt_of_le hs1 hBx.size
            have hcell0 : wx.cell? ⟨b, o + k * 2, none⟩ = some (.int .i64 1) := (hBx.cell (p := ⟨b, o + k * 2, none⟩) hbr).trans hcell0
            have hcell1 : wx.cell? ⟨b, o + k * 2 + 1, none⟩ = some (.int .i64 (z k 1)) := (hBx.cell (p := ⟨b, o + k * 2 + 1, none⟩) hbr).trans hcell1
            clear x0 x1 x2 x3 fx0 fx1 fx2 fx3 y0 y1 fy0 fy1 hB hBx hbr hbr1 HAW
            have hbw : b ≠ w.heap.size := by omega
            have hbn : b ≠ w1.heap.size := by omega
            have hpx : p ≠ w.heap.size := by omega
            have hpn : p ≠ w1.heap.size := by omega
            have hnp : w1.heap.size ≠ p := by omega
            have hxp : w.heap.size ≠ p := by omega
            obtain ⟨⟨x0, x1, x2, x3⟩, ⟨fx0, fx1, fx2, fx3⟩, ⟨y0, y1⟩, fy0, fy1⟩ := unhide hA3
            go_wp2_with (go_at_call 12; refine (num_any _ _).mono ?_; rintro e w' ⟨rfl, rfl⟩)
            go_upto_region 15 with fail
            go_cut [109] (fun _ wy => Hid (Apart 1 h w.heap.size w1.heap.size l' d' (d') (l' + z k 1) wy) ∧ Hid (P4 wy p 1 (l' + z k 1) h (d')) ∧ Below w.heap.size w wy ∧ wx.heap.size ≤ wy.heap.size ∧ wy.cell? ⟨b, o + k * 2 + 1, none⟩ = some (.int .i64 (z k 1)))
            case first =>
              have HPx := unhide HP
              go_region
              all_goals go_wp2_with fail
              all_goals go_meet
              all_goals refine ⟨hide (by first | exact (unhide hA3).next1 hne _ | exact ((unhide hA3).next1 hne _).drew | exact (Apart.drew (unhide hA3)).next1 hne _), hide (by first | exact HPx.far hpn _ | exact (HPx.far hpn _).drew | exact (P4.drew HPx).far hpn _), ?_, ?_, ?_⟩
              all_goals first | exact hB3.setCell (p := ⟨w1.heap.size, 1, none⟩) hww _ | exact (hB3.setCell (p := ⟨w1.heap.size, 1, none⟩) hww _).drew | exact hB3.drew.setCell (p := ⟨w1.heap.size, 1, none⟩) hww _ | (simp; done) | (go_simp; done)
            case rest =>
              obtain ⟨HAy, HPy, hBy, hsy, hcy⟩ := hcut
              obtain ⟨wy, hwy⟩ : ∃ wy, wy = wc := ⟨_, rfl⟩
              subst hwy
              clear x0 x1 x2 x3 fx0 fx1 fx2 fx3 y0 y1 fy0 fy1 hA3 HP hcell0 hcell1 hB3
              obtain ⟨⟨x0, x1, x2, x3⟩, ⟨fx0, fx1, fx2, fx3⟩, ⟨y0, y1⟩, fy0, fy1⟩ := unhide HAy
              obtain ⟨q0, q1, q2, q3⟩ := unhide HPy
              have HAz := hide ((unhide HAy).step hne (l' + z k 1) (d'))
              have HBz : Hid (Below w.heap.size w ((((wy.setCell ⟨w.heap.size, 0, none⟩ (.int .i64 1)).setCell ⟨w.heap.size, 1, none⟩ (.int .i64 (l' + z k 1))).setCell ⟨w.heap.size, 2, none⟩ (.int .i64 h)).setCell ⟨w.heap.size, 3, none⟩ (.int .i64 (d')))) := hide ((((hBy.setCell (p := ⟨w.heap.size, 0, none⟩) (Nat.le_refl _) _).setCell (p := ⟨w.heap.size, 1, none⟩) (Nat.le_refl _) _).setCell (p := ⟨w.heap.size, 2, none⟩) (Nat.le_refl _) _).setCell (p := ⟨w.heap.size, 3, none⟩) (Nat.le_refl _) _)
              have hRz := hide (show rightB 1 (l' + z k 1) h (d') = true from rightB_iff.2 ⟨by omega, by omega, by omega⟩)
              go_wp2
              go_roundw
              case measure => simp [intOf]; omega
              case rel => exact ⟨k + 1, l' + z k 1, d', by omega, by go_num, by go_num, unhide hRz, unhide HAz, by simp; omega, unhide HBz⟩
        · have hsp2 : z k 0 = 0 := by omega
          rw [hsp2] at hcell0 hok
          have HK := hide hok
          clear hok hsp hsp2 HA HC hcw1 hfw1
          go_upto_region 11 with fail
          go_cut [10, 11, 12] (fun s10 s11 s12 wx => ∃ p, s10 = .pointer (some ⟨p, 0, none⟩) ∧ s11 = .int .i64 (d') ∧ s12 = .int .i64 (0) ∧ wr.heap.size ≤ p ∧ p < wx.heap.size ∧ Below wr.heap.size wr wx ∧ Hid (P4 wx p (1) (l') (h) (d' + z k 1)))
          case first =>
            go_region_held3 (fun W => Below wr.heap.size wr W ∧ W.cell? ⟨b, o + k * 2, none⟩ = some (.int .i64 0) ∧ W.cell? ⟨b, o + k * 2 + 1, none⟩ = some (.int .i64 (z k 1)) ∧ W.cell? ⟨w.heap.size, 0, none⟩ = some (.int .i64 1) ∧ W.cell? ⟨w.heap.size, 1, none⟩ = some (.int .i64 l') ∧ W.cell? ⟨w.heap.size, 2, none⟩ = some (.int .i64 h) ∧ W.cell? ⟨w.heap.size, 3, none⟩ = some (.int .i64 d')) (((refine and_dep ?_ (fun hkq => ⟨(hkq.cell (p := ⟨b, o + k * 2, none⟩) hbr).trans hcell0, (hkq.cell (p := ⟨b, o + k * 2 + 1, none⟩) hbr).trans hcell1, (hkq.cell (p := ⟨w.heap.size, 0, none⟩) hs0).trans x0, (hkq.cell (p := ⟨w.heap.size, 1, none⟩) hs0).trans x1, (hkq.cell (p := ⟨w.heap.size, 2, none⟩) hs0).trans x2, (hkq.cell (p := ⟨w.heap.size, 3, none⟩) hs0).trans x3⟩)); go_split_ands; repeat (first | exact Below.refl _ _ | assumption | refine Below.alloc ?_ (by first | (simp; done) | (simp; omega) | omega) _ | refine Below.setCell ?_ (by first | (simp; done) | (simp; omega) | omega) _ | apply Below.drew | refine Below.trans ?_ (Below.mono (by assumption) (by first | (simp; done) | (simp; omega) | omega)))))
              ((go_at_call 19; refine (claim_other _ _ _ _ _ _ (by decide) (unhide HK) _).mono ?_; rintro e w3 ⟨rfl, hw3⟩; obtain ⟨hcw3, hfw3⟩ := bcell hw3; (try (simp only [World.size_drew, World.cell?_drew, World.frozen?_drew] at hcw3 hfw3)); have hzw3 := hw3.size; (try (simp only [World.size_alloc, World.size_setCell, World.size_drew] at hzw3)); (try (have hzw3_w_0 : w.heap.size < w3.heap.size := by omega)); (try (have hzw3_w_1 : w.heap.size + 1 < w3.heap.size := by omega)); (try (have hzw3_w_2 : w.heap.size + 1 + 1 < w3.heap.size := by omega)); (try (have hzw3_w_3 : w.heap.size + 1 + 1 + 1 < w3.heap.size := by omega)); (try (have hyw3_w : w.heap.size ≤ w3.heap.size := by omega)); (try (have hyw3_wa : w.heap.size + 1 ≤ w3.heap.size := by omega)); (try (have hzw3_w1_0 : w1.heap.size < w3.heap.size := by omega)); (try (have hzw3_w1_1 : w1.heap.size + 1 < w3.heap.size := by omega)); (try (have hzw3_w1_2 : w1.heap.size + 1 + 1 < w3.heap.size := by omega)); (try (have hzw3_w1_3 : w1.heap.size + 1 + 1 + 1 < w3.heap.size := by omega)); (try (have hyw3_w1 : w1.heap.size ≤ w3.heap.size := by omega)); (try (have hyw3_w1a : w1.heap.size + 1 ≤ w3.heap.size := by omega)); (try (have hzw3_wr_0 : wr.heap.size < w3.heap.size := by omega)); (try (have hzw3_wr_1 : wr.heap.size + 1 < w3.heap.size := by omega)); (try (have hzw3_wr_2 : wr.heap.size + 1 + 1 < w3.heap.size := by omega)); (try (have hzw3_wr_3 : wr.heap.size + 1 + 1 + 1 < w3.heap.size := by omega)); (try (have hyw3_wr : wr.heap.size ≤ w3.heap.size := by omega)); (try (have hyw3_wra : wr.heap.size + 1 ≤ w3.heap.size := by omega)); (have hbw3 : b < w3.heap.size := by omega); (have hblw3 : b ≤ w3.heap.size := by omega)))
            all_goals go_wp2_with fail
            all_goals go_meet
            all_goals exact ⟨_, rfl, rfl, rfl, by first | (simp; done) | (simp; omega) | omega, by first | (simp; done) | (simp; omega) | omega, by repeat (first | exact Below.refl _ _ | assumption | refine Below.alloc ?_ (by first | (simp; done) | (simp; omega) | omega) _ | refine Below.setCell ?_ (by first | (simp; done) | (simp; omega) | omega) _ | apply Below.drew | refine Below.trans ?_ (Below.mono (by assumption) (by first | (simp; done) | (simp; omega) | omega))), hide ⟨by go_simp, by go_simp, by go_simp, by go_simp⟩⟩
          case rest =>
            obtain ⟨p, rfl, rfl, rfl, hp1, hp2, hBx, HP⟩ := hcut
            obtain ⟨wx, hwx⟩ : ∃ wx, wx = wc := ⟨_, rfl⟩
            subst hwx
            have hB3 : Below w.heap.size w wx := hB.trans (hBx.mono hsz)
            have hA3 := hide ((unhide HAW).keep hs0 hs1 hBx)
            have hs3 : w1.heap.size < wx.heap.size := Nat.lt_of_lt_of_le hs1 hBx.size
            have hcell0 : wx.cell? ⟨b, o + k * 2, none⟩ = some (.int .i64 0) := (hBx.cell (p := ⟨b, o + k * 2, none⟩) hbr).trans hcell0
            have hcell1 : wx.cell? ⟨b, o + k * 2 + 1, none⟩ = some (.int .i64 (z k 1)) := (hBx.cell (p := ⟨b, o + k * 2 + 1, none⟩) hbr).trans hcell1
            clear x0 x1 x2 x3 fx0 fx1 fx2 fx3 y0 y1 fy0 fy1 hB hBx hbr hbr1 HAW
            have hbw : b ≠ w.heap.size := by omega
            have hbn : b ≠ w1.heap.size := by omega
            have hpx : p ≠ w.heap.size := by omega
            have hpn : p ≠ w1.heap.size := by omega
            have hnp : w1.heap.size ≠ p := by omega
            have hxp : w.heap.size ≠ p := by omega
            obtain ⟨⟨x0, x1, x2, x3⟩, ⟨fx0, fx1, fx2, fx3⟩, ⟨y0, y1⟩, fy0, fy1⟩ := unhide hA3
            go_wp2_with (go_at_call 12; refine (num_any _ _).mono ?_; rintro e w' ⟨rfl, rfl⟩)
            go_upto_region 15 with fail
            go_cut [109] (fun _ wy => Hid (Apart 1 h w.heap.size w1.heap.size l' d' (d' + z k 1) (l') wy) ∧ Hid (P4 wy p 1 (l') h (d' + z k 1)) ∧ Below w.heap.size w wy ∧ wx.heap.size ≤ wy.heap.size ∧ wy.cell? ⟨b, o + k * 2 + 1, none⟩ = some (.int .i64 (z k 1)))
            case first =>
              have HPx := unhide HP
              go_region
              all_goals go_wp2_with fail
              all_goals go_meet
              all_goals refine ⟨hide (by first | exact (unhide hA3).next0 hne _ | exact ((unhide hA3).next0 hne _).drew | exact (Apart.drew (unhide hA3)).next0 hne _), hide (by first | exact HPx.far hpn _ | exact (HPx.far hpn _).drew | exact (P4.drew HPx).far hpn _), ?_, ?_, ?_⟩
              all_goals first | exact hB3.setCell (p := ⟨w1.heap.size, 0, none⟩) hww _ | exact (hB3.setCell (p := ⟨w1.heap.size, 0, none⟩) hww _).drew | exact hB3.drew.setCell (p := ⟨w1.heap.size, 0, none⟩) hww _ | (simp; done) | (go_simp; done)
            case rest =>
              obtain ⟨HAy, HPy, hBy, hsy, hcy⟩ := hcut
              obtain ⟨wy, hwy⟩ : ∃ wy, wy = wc := ⟨_, rfl⟩
              subst hwy
              clear x0 x1 x2 x3 fx0 fx1 fx2 fx3 y0 y1 fy0 fy1 hA3 HP hcell0 hcell1 hB3
              obtain ⟨⟨x0, x1, x2, x3⟩, ⟨fx0, fx1, fx2, fx3⟩, ⟨y0, y1⟩, fy0, fy1⟩ := unhide HAy
              obtain ⟨q0, q1, q2, q3⟩ := unhide HPy
              have HAz := hide ((unhide HAy).step hne (l') (d' + z k 1))
              have HBz : Hid (Below w.heap.size w ((((wy.setCell ⟨w.heap.size, 0, none⟩ (.int .i64 1)).setCell ⟨w.heap.size, 1, none⟩ (.int .i64 (l'))).setCell ⟨w.heap.size, 2, none⟩ (.int .i64 h)).setCell ⟨w.heap.size, 3, none⟩ (.int .i64 (d' + z k 1)))) := hide ((((hBy.setCell (p := ⟨w.heap.size, 0, none⟩) (Nat.le_refl _) _).setCell (p := ⟨w.heap.size, 1, none⟩) (Nat.le_refl _) _).setCell (p := ⟨w.heap.size, 2, none⟩) (Nat.le_refl _) _).setCell (p := ⟨w.heap.size, 3, none⟩) (Nat.le_refl _) _)
              have hRz := hide (show rightB 1 (l') h (d' + z k 1) = true from rightB_iff.2 ⟨by omega, by omega, by omega⟩)
              go_wp2
              go_roundw
              case measure => simp [intOf]; omega
              case rel => exact ⟨k + 1, l', d' + z k 1, by omega, by go_num, by go_num, unhide hRz, unhide HAz, by simp; omega, unhide HBz⟩
      · have hok2 : clOk 1 l' h d' (z k 0) (z k 1) = false := by simpa using hok
        have hE := claim_bad _ _ _ _ _ _ hok2
        clear hok hok2 HA HC hcw1 hfw1
        go_upto_region 11 with fail
        go_cut [10, 11, 12] (fun s10 s11 s12 wx => ∃ p, s10 = .pointer (some ⟨p, 0, none⟩) ∧ s11 = .int .i64 ((claimF 1 l' h d' (z k 0) (z k 1)).at_) ∧ s12 = .int .i64 ((claimF 1 l' h d' (z k 0) (z k 1)).e) ∧ wr.heap.size ≤ p ∧ p < wx.heap.size ∧ Below wr.heap.size wr wx ∧ Hid (P4 wx p ((claimF 1 l' h d' (z k 0) (z k 1)).s) ((claimF 1 l' h d' (z k 0) (z k 1)).l) ((claimF 1 l' h d' (z k 0) (z k 1)).h) ((claimF 1 l' h d' (z k 0) (z k 1)).o)))
        case first =>
          go_region_held3 (fun W => Below wr.heap.size wr W ∧ W.cell? ⟨b, o + k * 2, none⟩ = some (.int .i64 (z k 0)) ∧ W.cell? ⟨b, o + k * 2 + 1, none⟩ = some (.int .i64 (z k 1)) ∧ W.cell? ⟨w.heap.size, 0, none⟩ = some (.int .i64 1) ∧ W.cell? ⟨w.heap.size, 1, none⟩ = some (.int .i64 l') ∧ W.cell? ⟨w.heap.size, 2, none⟩ = some (.int .i64 h) ∧ W.cell? ⟨w.heap.size, 3, none⟩ = some (.int .i64 d')) (((refine and_dep ?_ (fun hkq => ⟨(hkq.cell (p := ⟨b, o + k * 2, none⟩) hbr).trans hcell0, (hkq.cell (p := ⟨b, o + k * 2 + 1, none⟩) hbr).trans hcell1, (hkq.cell (p := ⟨w.heap.size, 0, none⟩) hs0).trans x0, (hkq.cell (p := ⟨w.heap.size, 1, none⟩) hs0).trans x1, (hkq.cell (p := ⟨w.heap.size, 2, none⟩) hs0).trans x2, (hkq.cell (p := ⟨w.heap.size, 3, none⟩) hs0).trans x3⟩)); go_split_ands; repeat (first | exact Below.refl _ _ | assumption | refine Below.alloc ?_ (by first | (simp; done) | (simp; omega) | omega) _ | refine Below.setCell ?_ (by first | (simp; done) | (simp; omega) | omega) _ | apply Below.drew | refine Below.trans ?_ (Below.mono (by assumption) (by first | (simp; done) | (simp; omega) | omega)))))
            ((go_at_call 19; refine (claim_t _ _ _ _ _ _ _).mono ?_; rintro e w3 ⟨rfl, hw3⟩; obtain ⟨hcw3, hfw3⟩ := bcell hw3; (try (simp only [World.size_drew, World.cell?_drew, World.frozen?_drew] at hcw3 hfw3)); have hzw3 := hw3.size; (try (simp only [World.size_alloc, World.size_setCell, World.size_drew] at hzw3)); (try (have hzw3_w_0 : w.heap.size < w3.heap.size := by omega)); (try (have hzw3_w_1 : w.heap.size + 1 < w3.heap.size := by omega)); (try (have hzw3_w_2 : w.heap.size + 1 + 1 < w3.heap.size := by omega)); (try (have hzw3_w_3 : w.heap.size + 1 + 1 + 1 < w3.heap.size := by omega)); (try (have hyw3_w : w.heap.size ≤ w3.heap.size := by omega)); (try (have hyw3_wa : w.heap.size + 1 ≤ w3.heap.size := by omega)); (try (have hzw3_w1_0 : w1.heap.size < w3.heap.size := by omega)); (try (have hzw3_w1_1 : w1.heap.size + 1 < w3.heap.size := by omega)); (try (have hzw3_w1_2 : w1.heap.size + 1 + 1 < w3.heap.size := by omega)); (try (have hzw3_w1_3 : w1.heap.size + 1 + 1 + 1 < w3.heap.size := by omega)); (try (have hyw3_w1 : w1.heap.size ≤ w3.heap.size := by omega)); (try (have hyw3_w1a : w1.heap.size + 1 ≤ w3.heap.size := by omega)); (try (have hzw3_wr_0 : wr.heap.size < w3.heap.size := by omega)); (try (have hzw3_wr_1 : wr.heap.size + 1 < w3.heap.size := by omega)); (try (have hzw3_wr_2 : wr.heap.size + 1 + 1 < w3.heap.size := by omega)); (try (have hzw3_wr_3 : wr.heap.size + 1 + 1 + 1 < w3.heap.size := by omega)); (try (have hyw3_wr : wr.heap.size ≤ w3.heap.size := by omega)); (try (have hyw3_wra : wr.heap.size + 1 ≤ w3.heap.size := by omega)); (have hbw3 : b < w3.heap.size := by omega); (have hblw3 : b ≤ w3.heap.size := by omega)))
          all_goals go_wp2_with fail
          all_goals go_meet
          all_goals exact ⟨_, rfl, rfl, rfl, by first | (simp; done) | (simp; omega) | omega, by first | (simp; done) | (simp; omega) | omega, by repeat (first | exact Below.refl _ _ | assumption | refine Below.alloc ?_ (by first | (simp; done) | (simp; omega) | omega) _ | refine Below.setCell ?_ (by first | (simp; done) | (simp; omega) | omega) _ | apply Below.drew | refine Below.trans ?_ (Below.mono (by assumption) (by first | (simp; done) | (simp; omega) | omega))), hide ⟨by go_simp, by go_simp, by go_simp, by go_simp⟩⟩
        case rest =>
          obtain ⟨p, rfl, rfl, rfl, hp1, hp2, hBx, HP⟩ := hcut
          obtain ⟨wx, hwx⟩ : ∃ wx, wx = wc := ⟨_, rfl⟩
          subst hwx
          have hB3 : Below w.heap.size w wx := hB.trans (hBx.mono hsz)
          have hA3 := hide ((unhide HAW).keep hs0 hs1 hBx)
          have hs3 : w1.heap.size < wx.heap.size := Nat.lt_of_lt_of_le hs1 hBx.size
          have hcell0 : wx.cell? ⟨b, o + k * 2, none⟩ = some (.int .i64 (z k 0)) := (hBx.cell (p := ⟨b, o + k * 2, none⟩) hbr).trans hcell0
          have hcell1 : wx.cell? ⟨b, o + k * 2 + 1, none⟩ = some (.int .i64 (z k 1)) := (hBx.cell (p := ⟨b, o + k * 2 + 1, none⟩) hbr).trans hcell1
          clear x0 x1 x2 x3 fx0 fx1 fx2 fx3 y0 y1 fy0 fy1 hB hBx hbr hbr1 HAW
          clear HP hcell0 hcell1
          generalize (claimF 1 l' h d' (z k 0) (z k 1)).e = E at hE
          go_wp2_with (go_at_call 12; refine (num_any _ _).mono ?_; rintro e w' ⟨rfl, rfl⟩)
          go_roundw
          case measure => simp [intOf]; omega
          case rel => exact ⟨k + 1, l', d', by omega, by go_num, rfl, unhide HR, unhide hA3, hs3, hB3⟩
    · have hge : ¬ ((k : Int) < (len : Int)) := by omega
      go_wp2_with fail
      (refine (usedOf _ _ _ _ (unhide HR) _).mono ?_); rintro e w4 ⟨rfl, hw4⟩; obtain ⟨hcw4, hfw4⟩ := bcell hw4; (try (simp only [World.size_drew, World.cell?_drew, World.frozen?_drew] at hcw4 hfw4)); have hzw4 := hw4.size; (try (simp only [World.size_alloc, World.size_setCell, World.size_drew] at hzw4)); (try (have hzw4_w_0 : w.heap.size < w4.heap.size := by omega)); (try (have hzw4_w_1 : w.heap.size + 1 < w4.heap.size := by omega)); (try (have hzw4_w_2 : w.heap.size + 1 + 1 < w4.heap.size := by omega)); (try (have hzw4_w_3 : w.heap.size + 1 + 1 + 1 < w4.heap.size := by omega)); (try (have hyw4_w : w.heap.size ≤ w4.heap.size := by omega)); (try (have hyw4_wa : w.heap.size + 1 ≤ w4.heap.size := by omega)); (try (have hzw4_w1_0 : w1.heap.size < w4.heap.size := by omega)); (try (have hzw4_w1_1 : w1.heap.size + 1 < w4.heap.size := by omega)); (try (have hzw4_w1_2 : w1.heap.size + 1 + 1 < w4.heap.size := by omega)); (try (have hzw4_w1_3 : w1.heap.size + 1 + 1 + 1 < w4.heap.size := by omega)); (try (have hyw4_w1 : w1.heap.size ≤ w4.heap.size := by omega)); (try (have hyw4_w1a : w1.heap.size + 1 ≤ w4.heap.size := by omega)); (try (have hzw4_wr_0 : wr.heap.size < w4.heap.size := by omega)); (try (have hzw4_wr_1 : wr.heap.size + 1 < w4.heap.size := by omega)); (try (have hzw4_wr_2 : wr.heap.size + 1 + 1 < w4.heap.size := by omega)); (try (have hzw4_wr_3 : wr.heap.size + 1 + 1 + 1 < w4.heap.size := by omega)); (try (have hyw4_wr : wr.heap.size ≤ w4.heap.size := by omega)); (try (have hyw4_wra : wr.heap.size + 1 ≤ w4.heap.size := by omega))
      go_wp2_with (first | (go_at_call 12; refine (num_any _ _).mono ?_; rintro e w' ⟨rfl, rfl⟩) | (go_at_call 9; refine (works_any _).mono ?_; rintro e ww ⟨rfl, hww⟩; obtain ⟨hcww, hfww⟩ := bcell hww; (try (simp only [World.size_drew, World.cell?_drew, World.frozen?_drew] at hcww hfww)); have hzww := hww.size; (try (simp only [World.size_alloc, World.size_setCell, World.size_drew] at hzww)); (try (have hzww_w_0 : w.heap.size < ww.heap.size := by omega)); (try (have hzww_w_1 : w.heap.size + 1 < ww.heap.size := by omega)); (try (have hzww_w_2 : w.heap.size + 1 + 1 < ww.heap.size := by omega)); (try (have hzww_w_3 : w.heap.size + 1 + 1 + 1 < ww.heap.size := by omega)); (try (have hyww_w : w.heap.size ≤ ww.heap.size := by omega)); (try (have hyww_wa : w.heap.size + 1 ≤ ww.heap.size := by omega))))
      go_ret
      refine ⟨rfl, ?_⟩
      repeat (first | exact Below.refl _ _ | assumption | refine Below.alloc ?_ (by first | (simp; done) | (simp; omega) | omega) _ | refine Below.setCell ?_ (by first | (simp; done) | (simp; omega) | omega) _ | apply Below.drew | refine Below.trans ?_ (Below.mono (by assumption) (by first | (simp; done) | (simp; omega) | omega)))
end Go.Proofs.Ythkfcleigidihaa
