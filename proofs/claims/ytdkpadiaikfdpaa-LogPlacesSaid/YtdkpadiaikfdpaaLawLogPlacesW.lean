/- The walk of LogPlaces: it returns true. -/
import Derived.Test.YtdkpadiaikfdpaaLgW
import Derived.Test.YtdkpadiaikfdpaaLgV
namespace Go.Proofs.Ytdkpadiaikfdpaa
set_option linter.unusedVariables false
set_option linter.unusedSimpArgs false
open Go.RowKit

set_option maxRecDepth 100000 in
set_option maxHeartbeats 4000000 in
theorem logPlaces_walk (A : Option Addr) (len cap : Nat) (t : Int) (hwt : (Lit.int .i64 t).wf = true) (x : Int) (hwx : (Lit.int .i64 x).wf = true) (w : World) (hr : RowOk w 5 [.int .i64, .int .i64, .int .i64, .int .u64, .int .u64, .int .u64] A len cap) :
    Calls Try.prog 7 #[.slice A len cap, .int .i64 t, .int .i64 x] w fun e w' => e = .returned (.bool true) ∧ Below w.heap.size w w' := by
  have hm := hr.1
  have hm2 := hr.2.1
  unfold maxLen at hm2
  obtain ⟨st, hS, _⟩ := StOk.of_row hr
  have HS := hide hS
  clear hr hS hwt hwx
  by_cases hl : 100 < len
  · go_enter Try.func7, Try.ntmps7
    go_wp2_with (go_at_call 10; refine (works13_any _).mono ?_; rintro e ww ⟨rfl, hww⟩; obtain ⟨hcww, hfww⟩ := bcell hww; (try (simp only [World.size_drew, World.cell?_drew, World.frozen?_drew] at hcww hfww)); have hzww := hww.size; (try (simp only [World.size_alloc, World.size_setCell, World.size_drew] at hzww)); (try (have hzww_w_0 : w.heap.size < ww.heap.size := by omega)); (try (have hzww_w_1 : w.heap.size + 1 < ww.heap.size := by omega)); (try (have hzww_w_2 : w.heap.size + 1 + 1 < ww.heap.size := by omega)); (try (have hzww_w_3 : w.heap.size + 1 + 1 + 1 < ww.heap.size := by omega)); (try (have hyww_w : w.heap.size ≤ ww.heap.size := by omega)); (try (have hyww_wa : w.heap.size + 1 ≤ ww.heap.size := by omega)))
    go_ret
    exact ⟨rfl, by repeat (first | exact Below.refl _ _ | assumption | refine Below.alloc ?_ (by first | (simp; done) | (simp; omega) | omega) _ | refine Below.setCell ?_ (by first | (simp; done) | (simp; omega) | omega) _ | apply Below.drew | refine Below.trans ?_ (Below.mono (by assumption) (by first | (simp; done) | (simp; omega) | omega)))⟩
  have hl2 : len ≤ 100 := by omega
  have hz := lst_lt (pLa st x) len
  have hc1 := hide (last_any A len cap st x (by omega) w (unhide HS))
  have hc2 := hide (fun W (hb : Below w.heap.size w W) => refLast_any A len cap st x (by omega) W ((unhide HS).keep hb))
  generalize lst (pLa st x) len = z at hz hc1 hc2
  have L1 := plc_len (pOf st t) len
  have L2 := plc_len (pTo st x) len
  have hc3 := hide (fun W (hb : Below w.heap.size w W) => of_any A len cap st t (by omega) W ((unhide HS).keep hb))
  have hc4 := hide (fun W (hb : Below w.heap.size w W) => refOf_any A len cap st t (by omega) W ((unhide HS).keep hb))
  have hc5 := hide (fun W (hb : Below w.heap.size w W) => touches_any A len cap st x (by omega) W ((unhide HS).keep hb))
  have hc6 := hide (fun W (hb : Below w.heap.size w W) => refTouches_any A len cap st x (by omega) W ((unhide HS).keep hb))
  generalize plc (pOf st t) len = M1 at L1 hc3 hc4
  generalize plc (pTo st x) len = M2 at L2 hc5 hc6
  have hzc : z = -1 ∨ ∃ k : Nat, z = k := by
    by_cases h : 0 ≤ z
    · exact .inr ⟨z.toNat, by omega⟩
    · exact .inl (by omega)
  have hc1' : Hid (∃ (vz : Int) (bz : Bool), ((z = -1 ∧ vz = 0 ∧ bz = false) ∨ (0 ≤ z ∧ vz = z ∧ bz = true)) ∧ Calls Try.prog 19 #[.slice A len cap, .int .i64 x] w fun e w' => e = .returned (.tuple #[.int .i64 vz, .bool bz]) ∧ Below w.heap.size w w') := by
    rcases hzc with rfl | ⟨k, rfl⟩
    · exact hide ⟨0, false, .inl ⟨rfl, rfl, rfl⟩, unhide hc1⟩
    · have q := unhide hc1
      rw [show max 0 (k : Int) = k by omega, show decide (0 ≤ (k : Int)) = true by simp] at q
      exact hide ⟨k, true, .inr ⟨by omega, rfl, rfl⟩, q⟩
  clear hc1 hzc
  obtain ⟨vz, bz, hvb, hcq⟩ := unhide hc1'
  have hc1 := hide hcq
  clear hc1' hcq
  rcases hvb with ⟨rfl, rfl, rfl⟩ | ⟨hz0, rfl, rfl⟩
  all_goals
    go_enter Try.func7, Try.ntmps7
    go_wp2_with fail
    refine (unhide hc1).mono ?_
    rintro e w1 ⟨rfl, hb1⟩
    have B1 := hide hb1
    clear hb1 hc1
    go_wp2_with fail
    refine (unhide hc2 _ (unhide B1)).mono ?_
    rintro e w2 ⟨rfl, hb2⟩
    have B2 := hide ((unhide B1).trans (hb2.mono (unhide B1).size))
    clear hb2 B1 hc2
    go_wp2_with fail
    refine (unhide hc3 _ (unhide B2)).mono ?_
    rintro e w3 ⟨A3, c3, rfl, hr3, hb3⟩
    have B3 := hide ((unhide B2).trans (hb3.mono (unhide B2).size))
    have HR3 := hide hr3
    clear hb3 B2 hc3 hr3
    go_wp2_with fail
    refine (unhide hc4 _ (unhide B3)).mono ?_
    rintro e w4 ⟨A4, c4, rfl, hr4, hb4⟩
    have B4 := hide ((unhide B3).trans (hb4.mono (unhide B3).size))
    have HR3 := hide ((unhide HR3).keep hb4)
    have HR4 := hide hr4
    clear hb4 B3 hc4 hr4
    go_wp2_with fail
    refine (same13_self A3 A4 c3 c4 M1 (by omega) w4 (unhide HR3) (unhide HR4)).mono ?_
    rintro e w5 ⟨rfl, hb5⟩
    have B5 := hide ((unhide B4).trans (hb5.mono (unhide B4).size))
    clear hb5 B4 HR3 HR4
    go_wp2_with fail
    refine (unhide hc5 _ (unhide B5)).mono ?_
    rintro e w6 ⟨A6, c6, rfl, hr6, hb6⟩
    have B6 := hide ((unhide B5).trans (hb6.mono (unhide B5).size))
    have HR6 := hide hr6
    clear hb6 B5 hc5 hr6
    go_wp2_with fail
    refine (unhide hc6 _ (unhide B6)).mono ?_
    rintro e w7 ⟨A7, c7, rfl, hr7, hb7⟩
    have B7 := hide ((unhide B6).trans (hb7.mono (unhide B6).size))
    have HR6 := hide ((unhide HR6).keep hb7)
    have HR7 := hide hr7
    clear hb7 B6 hc6 hr7
    go_wp2_with fail
    refine (same13_self A6 A7 c6 c7 M2 (by omega) w7 (unhide HR6) (unhide HR7)).mono ?_
    rintro e w8 ⟨rfl, hb8⟩
    have B8 := hide ((unhide B7).trans (hb8.mono (unhide B7).size))
    clear hb8 B7 HR6 HR7
    go_wp2_with (go_at_call 10; refine (works13_any _).mono ?_; rintro e ww ⟨rfl, hww⟩; obtain ⟨hcww, hfww⟩ := bcell hww; (try (simp only [World.size_drew, World.cell?_drew, World.frozen?_drew] at hcww hfww)); have hzww := hww.size; (try (simp only [World.size_alloc, World.size_setCell, World.size_drew] at hzww)); (try (have hzww_w_0 : w.heap.size < ww.heap.size := by omega)); (try (have hzww_w_1 : w.heap.size + 1 < ww.heap.size := by omega)); (try (have hzww_w_2 : w.heap.size + 1 + 1 < ww.heap.size := by omega)); (try (have hzww_w_3 : w.heap.size + 1 + 1 + 1 < ww.heap.size := by omega)); (try (have hyww_w : w.heap.size ≤ ww.heap.size := by omega)); (try (have hyww_wa : w.heap.size + 1 ≤ ww.heap.size := by omega)))
    all_goals
      go_ret
      refine ⟨rfl, ?_⟩
      have := unhide B8
      have hsb := this.size
      repeat (first | exact Below.refl _ _ | assumption | refine Below.alloc ?_ (by first | (simp; done) | (simp; omega) | omega) _ | refine Below.setCell ?_ (by first | (simp; done) | (simp; omega) | omega) _ | apply Below.drew | refine Below.trans ?_ (Below.mono (by assumption) (by first | (simp; done) | (simp; omega) | omega)))
end Go.Proofs.Ytdkpadiaikfdpaa
