/- The walk of HistoryTells: it returns true. -/
import Derived.Test.YtahfoogcdgjimaaHsO
namespace Go.Proofs.Ytahfoogcdgjimaa
set_option linter.unusedVariables false
set_option linter.unusedSimpArgs false
open Go.RowKit

set_option maxRecDepth 100000 in
set_option maxHeartbeats 8000000 in
theorem historyTells_walk (A : Option Addr) (len cap : Nat) (t : Int) (hwt : (Lit.int .i64 t).wf = true) (x : Int) (hwx : (Lit.int .i64 x).wf = true) (w : World) (hr : RowOk w 5 [.int .i64, .int .i64, .int .i64, .int .i64, .int .i64, .int .i64, .int .i64, .int .i64, .int .i64, .int .i64, .bool, .int .i64, .int .i64, .int .i64, .bool] A len cap) :
    Calls Try.prog 5 #[.slice A len cap, .int .i64 t, .int .i64 x] w fun e w' => e = .returned (.bool true) ∧ Below w.heap.size w w' := by
  have hm := hr.1
  have hm2 := hr.2.1
  unfold maxLen at hm2
  obtain ⟨c, b, d, H, _⟩ := CallOk.of_row hr
  clear hr hwt hwx
  by_cases hl : 100 < len
  · go_enter Try.func5, Try.ntmps5
    go_wp2_with (go_at_call 7; refine (works10_any _).mono ?_; rintro e ww ⟨rfl, hww⟩; obtain ⟨hcww, hfww⟩ := bcell hww; (try (simp only [World.size_drew, World.cell?_drew, World.frozen?_drew] at hcww hfww)); have hzww := hww.size; (try (simp only [World.size_alloc, World.size_setCell, World.size_drew] at hzww)); (try (have hzww_w_0 : w.heap.size < ww.heap.size := by omega)); (try (have hzww_w_1 : w.heap.size + 1 < ww.heap.size := by omega)); (try (have hzww_w_2 : w.heap.size + 1 + 1 < ww.heap.size := by omega)); (try (have hzww_w_3 : w.heap.size + 1 + 1 + 1 < ww.heap.size := by omega)); (try (have hyww_w : w.heap.size ≤ ww.heap.size := by omega)); (try (have hyww_wa : w.heap.size + 1 ≤ ww.heap.size := by omega)))
    go_ret
    exact ⟨rfl, by repeat (first | exact Below.refl _ _ | assumption | refine Below.alloc ?_ (by first | (simp; done) | (simp; omega) | omega) _ | refine Below.setCell ?_ (by first | (simp; done) | (simp; omega) | omega) _ | apply Below.drew | refine Below.trans ?_ (Below.mono (by assumption) (by first | (simp; done) | (simp; omega) | omega)))⟩
  have hl2 : len ≤ 100 := by omega
  have HH := hide (fun W (hW : Below w.heap.size w W) => H.keep hW)
  have hc1 := hide (fun W (hb : Below w.heap.size w W) => of_any A len cap c b d t _ rfl (by omega) W (H.keep hb))
  have hc2 := hide (fun W (hb : Below w.heap.size w W) => refOf10_any A len cap c b d t (by omega) W (H.keep hb))
  have hc3 := hide (fun W (hb : Below w.heap.size w W) => open_any A len cap c b d _ rfl (by omega) W (H.keep hb))
  have hc4 := hide (fun W (hb : Below w.heap.size w W) => refOpen10_any A len cap c b d (by omega) W (H.keep hb))
  have hc5 := hide (fun W (hb : Below w.heap.size w W) => at_any A len cap c b d x _ rfl (by omega) W (H.keep hb))
  have hc6 := hide (fun W (hb : Below w.heap.size w W) => refAt10_any A len cap c b d x (by omega) W (H.keep hb))
  have hc7 := hide (fun W (hb : Below w.heap.size w W) => most10_any A len cap c b d (by omega) W (H.keep hb))
  have hc8 := hide (fun W (hb : Below w.heap.size w W) => refMost10_any A len cap c b d (by omega) W (H.keep hb))
  have L1 := plc_len (pTh c t) len
  have L2 := plc_len (pOp d) len
  have L3 := plc_len (pAt c d x) len
  generalize plc (pTh c t) len = M1 at L1 hc1 hc2
  generalize plc (pOp d) len = M2 at L2 hc3 hc4
  generalize plc (pAt c d x) len = M3 at L3 hc5 hc6
  generalize mostI c d len len = R at hc7 hc8
  clear H
  go_enter Try.func5, Try.ntmps5
  go_wp2
  go_loopw [7] (fun i wr => ∃ k : Nat, k ≤ len ∧ i = .int .i64 k ∧ Below w.heap.size w wr) (fun i _ => len - (intOf i).toNat)
  case atStart => exact ⟨0, Nat.zero_le _, rfl, Below.refl _ _⟩
  case round =>
    obtain ⟨k, hk, rfl, hB⟩ := hrel
    by_cases hlt : k + 1 < len
    · obtain ⟨g, o, rfl, hg, hc⟩ := unhide HH _ (Below.refl _ _) (by omega)
      have HK0 : Hid (CAt w g (o + k * 15) (c k) (b k) (d k)) := hide (hc k (by omega))
      have HK1 : Hid (CAt w g (o + (k + 1) * 15) (c (k + 1)) (b (k + 1)) (d (k + 1))) := hide (hc (k + 1) hlt)
      have b4 : (0 : Int) ≤ (k : Int) := by omega
      have b5 : (k : Int) < (len : Int) := by omega
      have hC1 := fun W => ahead_any (c k) (b k) (d k) (c (k + 1)) (b (k + 1)) (d (k + 1)) W
      have hC2 := fun W => ahead_any (c (k + 1)) (b (k + 1)) (d (k + 1)) (c k) (b k) (d k) W
      have hC3 := fun W => refAhead_any (c k) (b k) (d k) (c (k + 1)) (b (k + 1)) (d (k + 1)) W
      have hC4 := fun W => refAhead_any (c (k + 1)) (b (k + 1)) (d (k + 1)) (c k) (b k) (d k) W
      clear hc
      go_upto_region 6 with fail
      have b6 : (0 : Int) ≤ (k : Int) + 1 := by omega
      have b7 : (k : Int) + 1 < (len : Int) := by omega
      have b8 : ((k : Int) + 1).toNat = k + 1 := by omega
      have b9 : IntKind.i64.wrap ((k : Int) + 1) = (k : Int) + 1 := IntWalk.i64_in _ (by omega)
      refine wp_region_later w (by kernel_rfl) (by kernel_rfl) (by repeat (first | exact Below.refl _ _ | assumption | refine Below.alloc ?_ (by first | (simp; done) | (simp; omega) | omega) _ | refine Below.setCell ?_ (by first | (simp; done) | (simp; omega) | omega) _ | apply Below.drew | refine Below.trans ?_ (Below.mono (by assumption) (by first | (simp; done) | (simp; omega) | omega)))) ?_; (repeat (first | go_big_quiet_skip | (go_big_quiet_want; (first | ((first | (with_reducible refine quiet_loadC _ rfl _ _ rfl _ _ _ (later_cat hg (unhide HK0)) ?_) | (with_reducible refine quiet_loadC _ rfl _ _ rfl _ _ _ (later_cat hg (unhide HK1)) ?_)); go_big_quiet_on; simp only [Act.put, List.setIfInBounds_toArray, List.set_cons_zero, List.set_cons_succ]) | (go_big_quiet_op; (first | go_big_quiet_on | go_big_quiet_call ((first | (go_at_call 11; first | with_reducible exact later_call (hC1 _) | with_reducible exact later_call (hC2 _)) | (go_at_call 13; first | with_reducible exact later_call (hC3 _) | with_reducible exact later_call (hC4 _)))))))))); refine wpQuiet_nil ?_
      intro w2 hB2
      clear hC1 hC2 hC3 hC4 b6 b7 b8 b9
      go_wp2
      go_roundw
      case measure => simp [intOf]; omega
      case rel => exact ⟨k + 1, by omega, by go_num, hB2⟩
    · have B0 := hide hB
      clear HH hB
      go_wp2_with fail
      refine (unhide hc1 _ (unhide B0)).mono ?_
      rintro e w3 ⟨A3, c3, rfl, hr3, hb3⟩
      have B3 := hide ((unhide B0).trans (hb3.mono (unhide B0).size))
      have HR3 := hide hr3
      clear hb3 B0 hc1 hr3
      go_wp2_with fail
      refine (unhide hc2 _ (unhide B3)).mono ?_
      rintro e w4 ⟨A4, c4, rfl, hr4, hb4⟩
      have B4 := hide ((unhide B3).trans (hb4.mono (unhide B3).size))
      have HR3 := hide ((unhide HR3).keep hb4)
      have HR4 := hide hr4
      clear hb4 B3 hc2 hr4
      go_wp2_with fail
      refine (same10_self A3 A4 c3 c4 M1 (by omega) w4 (unhide HR3) (unhide HR4)).mono ?_
      rintro e w5 ⟨rfl, hb5⟩
      have B5 := hide ((unhide B4).trans (hb5.mono (unhide B4).size))
      clear hb5 B4 HR3 HR4
      go_wp2_with fail
      refine (unhide hc3 _ (unhide B5)).mono ?_
      rintro e w6 ⟨A6, c6, rfl, hr6, hb6⟩
      have B6 := hide ((unhide B5).trans (hb6.mono (unhide B5).size))
      have HR6 := hide hr6
      clear hb6 B5 hc3 hr6
      go_wp2_with fail
      refine (unhide hc4 _ (unhide B6)).mono ?_
      rintro e w7 ⟨A7, c7, rfl, hr7, hb7⟩
      have B7 := hide ((unhide B6).trans (hb7.mono (unhide B6).size))
      have HR6 := hide ((unhide HR6).keep hb7)
      have HR7 := hide hr7
      clear hb7 B6 hc4 hr7
      go_wp2_with fail
      refine (same10_self A6 A7 c6 c7 M2 (by omega) w7 (unhide HR6) (unhide HR7)).mono ?_
      rintro e w8 ⟨rfl, hb8⟩
      have B8 := hide ((unhide B7).trans (hb8.mono (unhide B7).size))
      clear hb8 B7 HR6 HR7
      go_wp2_with fail
      refine (unhide hc5 _ (unhide B8)).mono ?_
      rintro e w9 ⟨A9, c9, rfl, hr9, hb9⟩
      have B9 := hide ((unhide B8).trans (hb9.mono (unhide B8).size))
      have HR9 := hide hr9
      clear hb9 B8 hc5 hr9
      go_wp2_with fail
      refine (unhide hc6 _ (unhide B9)).mono ?_
      rintro e w10 ⟨A10, c10, rfl, hr10, hb10⟩
      have B10 := hide ((unhide B9).trans (hb10.mono (unhide B9).size))
      have HR9 := hide ((unhide HR9).keep hb10)
      have HR10 := hide hr10
      clear hb10 B9 hc6 hr10
      go_wp2_with fail
      refine (same10_self A9 A10 c9 c10 M3 (by omega) w10 (unhide HR9) (unhide HR10)).mono ?_
      rintro e w11 ⟨rfl, hb11⟩
      have B11 := hide ((unhide B10).trans (hb11.mono (unhide B10).size))
      clear hb11 B10 HR9 HR10
      go_wp2_with fail
      refine (unhide hc7 _ (unhide B11)).mono ?_
      rintro e w12 ⟨rfl, hb12⟩
      have B12 := hide ((unhide B11).trans (hb12.mono (unhide B11).size))
      clear hb12 B11 hc7
      go_wp2_with fail
      refine (unhide hc8 _ (unhide B12)).mono ?_
      rintro e w13 ⟨rfl, hb13⟩
      have B13 := hide ((unhide B12).trans (hb13.mono (unhide B12).size))
      clear hb13 B12 hc8
      go_wp2_with (go_at_call 7; refine (works10_any _).mono ?_; rintro e ww ⟨rfl, hww⟩; obtain ⟨hcww, hfww⟩ := bcell hww; (try (simp only [World.size_drew, World.cell?_drew, World.frozen?_drew] at hcww hfww)); have hzww := hww.size; (try (simp only [World.size_alloc, World.size_setCell, World.size_drew] at hzww)); (try (have hzww_w_0 : w.heap.size < ww.heap.size := by omega)); (try (have hzww_w_1 : w.heap.size + 1 < ww.heap.size := by omega)); (try (have hzww_w_2 : w.heap.size + 1 + 1 < ww.heap.size := by omega)); (try (have hzww_w_3 : w.heap.size + 1 + 1 + 1 < ww.heap.size := by omega)); (try (have hyww_w : w.heap.size ≤ ww.heap.size := by omega)); (try (have hyww_wa : w.heap.size + 1 ≤ ww.heap.size := by omega)))
      all_goals
        go_ret
        refine ⟨rfl, ?_⟩
        have := unhide B13
        have hsb := this.size
        repeat (first | exact Below.refl _ _ | assumption | refine Below.alloc ?_ (by first | (simp; done) | (simp; omega) | omega) _ | refine Below.setCell ?_ (by first | (simp; done) | (simp; omega) | omega) _ | apply Below.drew | refine Below.trans ?_ (Below.mono (by assumption) (by first | (simp; done) | (simp; omega) | omega)))
end Go.Proofs.Ytahfoogcdgjimaa
