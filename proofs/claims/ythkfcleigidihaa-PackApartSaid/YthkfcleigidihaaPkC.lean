/- The walks of package pack, and of its reference: requests of words. -/
import Derived.Test.YthkfcleigidihaaPkB
namespace Go.Proofs.Ythkfcleigidihaa
set_option linter.unusedVariables false
set_option linter.unusedSimpArgs false
open Go.RowKit

def ofReqEp (w : Int) : Int := if ofReqB w then w / 8 else 0
def ofReqPh (w : Int) : Int := if ofReqB w then w % 8 else 0
def ofReqE (w : Int) : Int := if ofReqB w then 0 else 2

theorem and_7 (x : Int) (h0 : 0 ≤ x) (h1 : x ≤ 18446744073709551615) : wrap64 (bits .and .u64 x 7) = x % 8 := by
  rw [u64_and _ _ (by omega) (by omega) (by omega) (by omega)]
  have : x.toNat &&& (7 : Int).toNat = x.toNat % 8 := nat_mask3 _
  rw [this, IntWalk.wrap64_in _ (by omega)]
  omega

set_option maxHeartbeats 400000 in
theorem ofRequest_any (x : Int) (w : World) (hx0 : 0 ≤ x) (hx : x ≤ 18446744073709551615) :
    Calls Try.prog 13 #[.int .u64 x] w fun e w' => e = .returned (.tuple #[.agg #[.int .i64 (ofReqEp x), .int .i64 (ofReqPh x)], .int .i64 (ofReqE x)]) ∧ Below w.heap.size w w' := by
  by_cases h1 : ofReqB x = true
  · have k1 : (reqE (x / 8) (x % 8) != 0) = false := by simp [reqE, show reqB (x / 8) (x % 8) = true from h1]
    go_enter Try.func13, Try.ntmps13
    go_wp2_with fail
    rw [and_7 x hx0 hx]
    refine (request_any _ _ _).mono ?_
    rintro e w1 ⟨rfl, hw1⟩; obtain ⟨hcw1, hfw1⟩ := bcell hw1; (try (simp only [World.size_drew, World.cell?_drew, World.frozen?_drew] at hcw1 hfw1)); have hzw1 := hw1.size; (try (simp only [World.size_alloc, World.size_setCell, World.size_drew] at hzw1)); (try (have hzw1_w_0 : w.heap.size < w1.heap.size := by omega)); (try (have hzw1_w_1 : w.heap.size + 1 < w1.heap.size := by omega)); (try (have hzw1_w_2 : w.heap.size + 1 + 1 < w1.heap.size := by omega)); (try (have hzw1_w_3 : w.heap.size + 1 + 1 + 1 < w1.heap.size := by omega)); (try (have hyw1_w : w.heap.size ≤ w1.heap.size := by omega)); (try (have hyw1_wa : w.heap.size + 1 ≤ w1.heap.size := by omega))
    go_wp2
    refine bodyPost_ret (v := .tuple #[.agg #[.int .i64 (x / 8), .int .i64 (x % 8)], .int .i64 0]) (by simp only [results, Try.results13]; go_simp) rfl ?_
    refine ⟨?_, ?_⟩
    · simp [ofReqEp, ofReqPh, ofReqE, h1]
    · repeat (first | exact Below.refl _ _ | assumption | refine Below.alloc ?_ (by first | (simp; done) | (simp; omega) | omega) _ | refine Below.setCell ?_ (by first | (simp; done) | (simp; omega) | omega) _ | apply Below.drew | refine Below.trans ?_ (Below.mono (by assumption) (by first | (simp; done) | (simp; omega) | omega)))
  · have k1 : (reqE (x / 8) (x % 8) != 0) = true := by simp [reqE, show ¬ reqB (x / 8) (x % 8) = true from h1]
    have k2 : Hid (reqE (x / 8) (x % 8) = 2) := by unfold Hid; simp [reqE, show ¬ reqB (x / 8) (x % 8) = true from h1]
    go_enter Try.func13, Try.ntmps13
    go_wp2_with fail
    rw [and_7 x hx0 hx]
    refine (request_any _ _ _).mono ?_
    rintro e w1 ⟨rfl, hw1⟩; obtain ⟨hcw1, hfw1⟩ := bcell hw1; (try (simp only [World.size_drew, World.cell?_drew, World.frozen?_drew] at hcw1 hfw1)); have hzw1 := hw1.size; (try (simp only [World.size_alloc, World.size_setCell, World.size_drew] at hzw1)); (try (have hzw1_w_0 : w.heap.size < w1.heap.size := by omega)); (try (have hzw1_w_1 : w.heap.size + 1 < w1.heap.size := by omega)); (try (have hzw1_w_2 : w.heap.size + 1 + 1 < w1.heap.size := by omega)); (try (have hzw1_w_3 : w.heap.size + 1 + 1 + 1 < w1.heap.size := by omega)); (try (have hyw1_w : w.heap.size ≤ w1.heap.size := by omega)); (try (have hyw1_wa : w.heap.size + 1 ≤ w1.heap.size := by omega))
    go_wp2
    refine bodyPost_ret (v := .tuple #[.agg #[.int .i64 0, .int .i64 0], .int .i64 (reqE (x / 8) (x % 8))]) (by simp only [results, Try.results13]; go_simp) rfl ?_
    refine ⟨?_, ?_⟩
    · rw [k2.out]
      simp [ofReqEp, ofReqPh, ofReqE, h1]
    · repeat (first | exact Below.refl _ _ | assumption | refine Below.alloc ?_ (by first | (simp; done) | (simp; omega) | omega) _ | refine Below.setCell ?_ (by first | (simp; done) | (simp; omega) | omega) _ | apply Below.drew | refine Below.trans ?_ (Below.mono (by assumption) (by first | (simp; done) | (simp; omega) | omega)))

theorem ofReqB_iff {x : Int} : ofReqB x = true ↔ (0 ≤ x / 8 ∧ x / 8 ≤ 1099511627775) ∧ (0 ≤ x % 8 ∧ x % 8 ≤ 6) := reqB_iff

set_option maxHeartbeats 400000 in
theorem refOfRequest_any (x : Int) (w : World) (hx0 : 0 ≤ x) (hx : x ≤ 18446744073709551615) :
    Calls Try.prog 14 #[.int .u64 x] w fun e w' => e = .returned (.tuple #[.agg #[.int .i64 (ofReqEp x), .int .i64 (ofReqPh x)], .int .i64 (ofReqE x)]) ∧ Below w.heap.size w w' := by
  have b8 : 0 ≤ x % 8 ∧ x % 8 < 8 := ⟨by omega, by omega⟩
  by_cases h1 : ofReqB x = true
  · have hb := ofReqB_iff.1 h1
    go_enter Try.func14, Try.ntmps14
    go_wp2
    refine bodyPost_ret (v := .tuple #[.agg #[.int .i64 (x / 8), .int .i64 (x % 8)], .int .i64 0]) (by simp only [results, Try.results14]; go_simp) rfl ?_
    refine ⟨?_, ?_⟩
    · simp [ofReqEp, ofReqPh, ofReqE, h1]
    · repeat (first | exact Below.refl _ _ | assumption | refine Below.alloc ?_ (by first | (simp; done) | (simp; omega) | omega) _ | refine Below.setCell ?_ (by first | (simp; done) | (simp; omega) | omega) _ | apply Below.drew | refine Below.trans ?_ (Below.mono (by assumption) (by first | (simp; done) | (simp; omega) | omega)))
  · have hb : ¬ (x / 8 ≤ 1099511627775 ∧ x % 8 ≤ 6) := fun h => h1 (ofReqB_iff.2 ⟨⟨by omega, h.1⟩, by omega, h.2⟩)
    go_enter Try.func14, Try.ntmps14
    go_wp2
    all_goals
      refine bodyPost_ret (v := .tuple #[.agg #[.int .i64 0, .int .i64 0], .int .i64 2]) (by simp only [results, Try.results14]; go_simp) rfl ?_
      refine ⟨?_, ?_⟩
      · simp [ofReqEp, ofReqPh, ofReqE, h1]
      · repeat (first | exact Below.refl _ _ | assumption | refine Below.alloc ?_ (by first | (simp; done) | (simp; omega) | omega) _ | refine Below.setCell ?_ (by first | (simp; done) | (simp; omega) | omega) _ | apply Below.drew | refine Below.trans ?_ (Below.mono (by assumption) (by first | (simp; done) | (simp; omega) | omega)))
end Go.Proofs.Ythkfcleigidihaa
