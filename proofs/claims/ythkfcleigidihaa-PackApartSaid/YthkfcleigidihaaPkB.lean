/- The walks of package pack, and of its reference: requests. -/
import Derived.Test.YthkfcleigidihaaPkA
namespace Go.Proofs.Ythkfcleigidihaa
set_option linter.unusedVariables false
set_option linter.unusedSimpArgs false
open Go.RowKit

def reqB (ep ph : Int) : Bool := inB 1099511627775 [ep] && inB 6 [ph]
def reqW (ep ph : Int) : Int := if reqB ep ph then 8 * ep + ph else 0
def reqE (ep ph : Int) : Int := if reqB ep ph then 0 else 2
def ofReqB (w : Int) : Bool := reqB (w / 8) (w % 8)

theorem or_8 (ep ph : Int) (h0 : 0 ≤ ep) (h1 : ep ≤ 1099511627775) (h2 : 0 ≤ ph) (h3 : ph ≤ 6) : bits .or .u64 (ep * 8) ph = 8 * ep + ph := by
  rw [u64_or _ _ (by omega) (by omega) (by omega) (by omega), nat_join 3 _ _ (by omega) (by omega)]
  omega

set_option maxHeartbeats 400000 in
theorem request_any (ep ph : Int) (w : World) :
    Calls Try.prog 10 #[.agg #[.int .i64 ep, .int .i64 ph]] w fun e w' => e = .returned (.tuple #[.int .u64 (reqW ep ph), .int .i64 (reqE ep ph)]) ∧ Below w.heap.size w w' := by
  by_cases h1 : inB 1099511627775 [ep] = true
  · have hb := inB1_iff.1 h1
    by_cases h2 : inB 6 [ph] = true
    · have hb2 := inB1_iff.1 h2
      go_enter Try.func10, Try.ntmps10
      go_wp2
      refine wp_scope_fwd 0 rfl ?_
      go_wp2_with (first | (go_at_call 29; (with_reducible refine (within1 1099511627775 ep _ _ ?_).mono ?_); (go_simp); rintro e w' ⟨rfl, rfl⟩) | (go_at_call 29; (with_reducible refine (within1 6 ph _ _ ?_).mono ?_); (go_simp); rintro e w' ⟨rfl, rfl⟩))
      (first | rw [fwd_ret] | rw [Exit.noGoto_ret] | skip)
      go_ret2
      refine ⟨?_, ?_⟩
      · simp [reqW, reqE, reqB, h1, h2, or_8 ep ph hb.1 hb.2 hb2.1 hb2.2]
      · repeat (first | exact Below.refl _ _ | assumption | refine Below.alloc ?_ (by first | (simp; done) | (simp; omega) | omega) _ | refine Below.setCell ?_ (by first | (simp; done) | (simp; omega) | omega) _ | apply Below.drew | refine Below.trans ?_ (Below.mono (by assumption) (by first | (simp; done) | (simp; omega) | omega)))
    · go_enter Try.func10, Try.ntmps10
      go_wp2
      refine wp_scope_fwd 0 rfl ?_
      go_wp2_with (first | (go_at_call 29; (with_reducible refine (within1 1099511627775 ep _ _ ?_).mono ?_); (go_simp); rintro e w' ⟨rfl, rfl⟩) | (go_at_call 29; (with_reducible refine (within1 6 ph _ _ ?_).mono ?_); (go_simp); rintro e w' ⟨rfl, rfl⟩))
      (go_step3; refine fwd_goto ?_; go_wp2)
      (first | rw [fwd_ret] | rw [Exit.noGoto_ret] | skip)
      go_ret2
      refine ⟨?_, ?_⟩
      · simp [reqW, reqE, reqB, h2]
      · repeat (first | exact Below.refl _ _ | assumption | refine Below.alloc ?_ (by first | (simp; done) | (simp; omega) | omega) _ | refine Below.setCell ?_ (by first | (simp; done) | (simp; omega) | omega) _ | apply Below.drew | refine Below.trans ?_ (Below.mono (by assumption) (by first | (simp; done) | (simp; omega) | omega)))
  · go_enter Try.func10, Try.ntmps10
    go_wp2
    refine wp_scope_fwd 0 rfl ?_
    go_wp2_with (first | (go_at_call 29; (with_reducible refine (within1 1099511627775 ep _ _ ?_).mono ?_); (go_simp); rintro e w' ⟨rfl, rfl⟩) | (go_at_call 29; (with_reducible refine (within1 6 ph _ _ ?_).mono ?_); (go_simp); rintro e w' ⟨rfl, rfl⟩))
    (go_step3; refine fwd_goto ?_; go_wp2)
    (first | rw [fwd_ret] | rw [Exit.noGoto_ret] | skip)
    go_ret2
    refine ⟨?_, ?_⟩
    · simp [reqW, reqE, reqB, h1]
    · repeat (first | exact Below.refl _ _ | assumption | refine Below.alloc ?_ (by first | (simp; done) | (simp; omega) | omega) _ | refine Below.setCell ?_ (by first | (simp; done) | (simp; omega) | omega) _ | apply Below.drew | refine Below.trans ?_ (Below.mono (by assumption) (by first | (simp; done) | (simp; omega) | omega)))

theorem reqB_iff {ep ph : Int} : reqB ep ph = true ↔ (0 ≤ ep ∧ ep ≤ 1099511627775) ∧ (0 ≤ ph ∧ ph ≤ 6) := by
  simp only [reqB, Bool.and_eq_true, inB1_iff]

set_option maxHeartbeats 400000 in
theorem refRequest_any (ep ph : Int) (w : World) :
    Calls Try.prog 11 #[.agg #[.int .i64 ep, .int .i64 ph]] w fun e w' => e = .returned (.tuple #[.int .u64 (reqW ep ph), .int .i64 (reqE ep ph)]) ∧ Below w.heap.size w w' := by
  by_cases h1 : reqB ep ph = true
  · have hb := reqB_iff.1 h1
    go_enter Try.func11, Try.ntmps11
    go_wp2
    go_ret2
    refine ⟨?_, ?_⟩
    · simp [reqW, reqE, h1]
    · repeat (first | exact Below.refl _ _ | assumption | refine Below.alloc ?_ (by first | (simp; done) | (simp; omega) | omega) _ | refine Below.setCell ?_ (by first | (simp; done) | (simp; omega) | omega) _ | apply Below.drew | refine Below.trans ?_ (Below.mono (by assumption) (by first | (simp; done) | (simp; omega) | omega)))
  · have hb : ¬ ((0 ≤ ep ∧ ep ≤ 1099511627775) ∧ (0 ≤ ph ∧ ph ≤ 6)) := fun h => h1 (reqB_iff.2 h)
    go_enter Try.func11, Try.ntmps11
    go_wp2
    all_goals
      go_ret2
      refine ⟨?_, ?_⟩
      · simp [reqW, reqE, h1]
      · repeat (first | exact Below.refl _ _ | assumption | refine Below.alloc ?_ (by first | (simp; done) | (simp; omega) | omega) _ | refine Below.setCell ?_ (by first | (simp; done) | (simp; omega) | omega) _ | apply Below.drew | refine Below.trans ?_ (Below.mono (by assumption) (by first | (simp; done) | (simp; omega) | omega)))
end Go.Proofs.Ythkfcleigidihaa
