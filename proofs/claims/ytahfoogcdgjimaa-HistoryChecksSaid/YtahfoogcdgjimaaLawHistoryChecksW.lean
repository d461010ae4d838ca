/- The walk of HistoryChecks: it returns true. -/
import Derived.Test.YtahfoogcdgjimaaHsN
namespace Go.Proofs.Ytahfoogcdgjimaa
set_option linter.unusedVariables false
set_option linter.unusedSimpArgs false
open Go.RowKit

set_option maxHeartbeats 4000000 in
theorem historyChecks_walk (A : Option Addr) (len cap : Nat) (n : Int) (hwn : (Lit.int .i64 n).wf = true) (w : World) (hr : RowOk w 5 [.int .i64, .int .i64, .int .i64, .int .i64, .int .i64, .int .i64, .int .i64, .int .i64, .int .i64, .int .i64, .bool, .int .i64, .int .i64, .int .i64, .bool] A len cap) :
    Calls Try.prog 3 #[.slice A len cap, .int .i64 n] w fun e w' => e = .returned (.bool true) ∧ Below w.heap.size w w' := by
  have hm := hr.1
  have hm2 := hr.2.1
  unfold maxLen at hm2
  obtain ⟨c, b, d, H, HW⟩ := CallOk.of_row hr
  have c1 := hide (chk10_any A len cap c b d n w H HW)
  have c2 := hide (fun W (hb : Below w.heap.size w W) => refChk10_any A len cap c b d n W (H.keep hb))
  generalize chkI c b d n len = R at c1 c2
  clear H HW hr hwn
  by_cases hl : 410 < len
  · go_enter Try.func3, Try.ntmps3
    go_wp2_with (go_at_call 7; refine (works10_any _).mono ?_; rintro e ww ⟨rfl, hww⟩; obtain ⟨hcww, hfww⟩ := bcell hww; (try (simp only [World.size_drew, World.cell?_drew, World.frozen?_drew] at hcww hfww)); have hzww := hww.size; (try (simp only [World.size_alloc, World.size_setCell, World.size_drew] at hzww)); (try (have hzww_w_0 : w.heap.size < ww.heap.size := by omega)); (try (have hzww_w_1 : w.heap.size + 1 < ww.heap.size := by omega)); (try (have hzww_w_2 : w.heap.size + 1 + 1 < ww.heap.size := by omega)); (try (have hzww_w_3 : w.heap.size + 1 + 1 + 1 < ww.heap.size := by omega)); (try (have hyww_w : w.heap.size ≤ ww.heap.size := by omega)); (try (have hyww_wa : w.heap.size + 1 ≤ ww.heap.size := by omega)))
    go_ret
    exact ⟨rfl, by repeat (first | exact Below.refl _ _ | assumption | refine Below.alloc ?_ (by first | (simp; done) | (simp; omega) | omega) _ | refine Below.setCell ?_ (by first | (simp; done) | (simp; omega) | omega) _ | apply Below.drew | refine Below.trans ?_ (Below.mono (by assumption) (by first | (simp; done) | (simp; omega) | omega)))⟩
  · have hl2 : len ≤ 410 := by omega
    go_enter Try.func3, Try.ntmps3
    go_wp2_with fail
    refine (unhide c1).mono ?_
    rintro e w1 ⟨rfl, hb1⟩
    have B1 := hide hb1
    clear hb1 c1
    go_wp2_with (go_at_call 8; refine (num10_any _ _).mono ?_; rintro e w' ⟨rfl, rfl⟩)
    refine (unhide c2 _ (unhide B1)).mono ?_
    rintro e w2 ⟨rfl, hb2⟩
    have B2 := hide ((unhide B1).trans (hb2.mono (unhide B1).size))
    clear hb2 B1 c2
    go_wp2_with (go_at_call 7; refine (works10_any _).mono ?_; rintro e ww ⟨rfl, hww⟩; obtain ⟨hcww, hfww⟩ := bcell hww; (try (simp only [World.size_drew, World.cell?_drew, World.frozen?_drew] at hcww hfww)); have hzww := hww.size; (try (simp only [World.size_alloc, World.size_setCell, World.size_drew] at hzww)); (try (have hzww_w_0 : w.heap.size < ww.heap.size := by omega)); (try (have hzww_w_1 : w.heap.size + 1 < ww.heap.size := by omega)); (try (have hzww_w_2 : w.heap.size + 1 + 1 < ww.heap.size := by omega)); (try (have hzww_w_3 : w.heap.size + 1 + 1 + 1 < ww.heap.size := by omega)); (try (have hyww_w : w.heap.size ≤ ww.heap.size := by omega)); (try (have hyww_wa : w.heap.size + 1 ≤ ww.heap.size := by omega)))
    all_goals
      go_ret
      refine ⟨rfl, ?_⟩
      have := unhide B2
      have hsb := this.size
      repeat (first | exact Below.refl _ _ | assumption | refine Below.alloc ?_ (by first | (simp; done) | (simp; omega) | omega) _ | refine Below.setCell ?_ (by first | (simp; done) | (simp; omega) | omega) _ | apply Below.drew | refine Below.trans ?_ (Below.mono (by assumption) (by first | (simp; done) | (simp; omega) | omega)))
end Go.Proofs.Ytahfoogcdgjimaa
