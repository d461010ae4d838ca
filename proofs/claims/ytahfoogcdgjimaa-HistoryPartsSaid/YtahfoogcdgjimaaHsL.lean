/- The walks of package history: a call's steps; Check's ways out. -/
import Derived.Test.YtahfoogcdgjimaaHsK
namespace Go.Proofs.Ytahfoogcdgjimaa
set_option linter.unusedVariables false
set_option linter.unusedSimpArgs false
open Go.RowKit

/-- A call's steps. -/
def stL (a : Nat → Int) (d : Bool) : List Int := if d = true ∧ a 13 ≠ a 12 then [a 12, a 13] else [a 12]

set_option maxHeartbeats 2000000 in
theorem steps1_any (a : Nat → Int) (b d : Bool) (w : World) (h : ¬ (d = true ∧ a 13 ≠ a 12)) :
    Calls Try.prog 26 #[.agg #[.int .i64 (a 0), .int .i64 (a 1), .int .i64 (a 2), .int .i64 (a 3), .int .i64 (a 4), .int .i64 (a 5), .int .i64 (a 6), .int .i64 (a 7), .int .i64 (a 8), .int .i64 (a 9), .bool b, .int .i64 (a 11), .int .i64 (a 12), .int .i64 (a 13), .bool d]] w fun e w' => ∃ g, e = .returned (.slice (some ⟨g, 0, none⟩) 1 1) ∧ w.heap.size ≤ g ∧ g < w'.heap.size ∧ w'.cell? ⟨g, 0, none⟩ = some (.int .i64 (a 12)) ∧ Below w.heap.size w w' := by
  cases d with
  | false =>
    go_enter Try.func26, Try.ntmps26
    go_wp2
    go_ret
    exact ⟨_, rfl, by simp, by simp, by go_simp, by repeat (first | exact Below.refl _ _ | assumption | refine Below.alloc ?_ (by first | (simp; done) | (simp; omega) | omega) _ | refine Below.setCell ?_ (by first | (simp; done) | (simp; omega) | omega) _ | apply Below.drew | refine Below.trans ?_ (Below.mono (by assumption) (by first | (simp; done) | (simp; omega) | omega)))⟩
  | true =>
    have h2 : a 13 = a 12 := by simpa using h
    have hb : (a 13 != a 12) = false := by simpa using h2
    go_enter Try.func26, Try.ntmps26
    go_wp2
    go_ret
    exact ⟨_, rfl, by simp, by simp, by go_simp, by repeat (first | exact Below.refl _ _ | assumption | refine Below.alloc ?_ (by first | (simp; done) | (simp; omega) | omega) _ | refine Below.setCell ?_ (by first | (simp; done) | (simp; omega) | omega) _ | apply Below.drew | refine Below.trans ?_ (Below.mono (by assumption) (by first | (simp; done) | (simp; omega) | omega)))⟩

set_option maxHeartbeats 2000000 in
theorem steps2_any (a : Nat → Int) (b : Bool) (w : World) (h : a 13 ≠ a 12) :
    Calls Try.prog 26 #[.agg #[.int .i64 (a 0), .int .i64 (a 1), .int .i64 (a 2), .int .i64 (a 3), .int .i64 (a 4), .int .i64 (a 5), .int .i64 (a 6), .int .i64 (a 7), .int .i64 (a 8), .int .i64 (a 9), .bool b, .int .i64 (a 11), .int .i64 (a 12), .int .i64 (a 13), .bool true]] w fun e w' => ∃ g, e = .returned (.slice (some ⟨g, 0, none⟩) 2 2) ∧ w.heap.size ≤ g ∧ g < w'.heap.size ∧ (w'.cell? ⟨g, 0, none⟩ = some (.int .i64 (a 12)) ∧ w'.cell? ⟨g, 1, none⟩ = some (.int .i64 (a 13))) ∧ Below w.heap.size w w' := by
  have hb : (a 13 != a 12) = true := by simpa using h
  go_enter Try.func26, Try.ntmps26
  go_wp2
  go_ret
  exact ⟨_, rfl, by simp, by simp, ⟨by go_simp, by go_simp⟩, by repeat (first | exact Below.refl _ _ | assumption | refine Below.alloc ?_ (by first | (simp; done) | (simp; omega) | omega) _ | refine Below.setCell ?_ (by first | (simp; done) | (simp; omega) | omega) _ | apply Below.drew | refine Below.trans ?_ (Below.mono (by assumption) (by first | (simp; done) | (simp; omega) | omega)))⟩

set_option maxHeartbeats 2000000 in
theorem chk10_bad (A : Option Addr) (len cap : Nat) (n : Int) (h : n < 1 ∨ 8 < n) (w : World) :
    Calls Try.prog 9 #[.slice A len cap, .int .i64 n] w fun e w' => e = .returned (.int .i64 2) ∧ Below w.heap.size w w' := by
  have hmm := @run_makeMap Try.prog
  by_cases h1 : n < 1
  · go_enter Try.func9, Try.ntmps9
    go_wp2
    refine wp_scope_fwd 0 rfl ?_
    go_wp2
    (first | rw [fwd_ret] | rw [Exit.noGoto_ret] | skip)
    go_ret
    exact ⟨rfl, by repeat (first | exact Below.refl _ _ | assumption | refine Below.alloc ?_ (by first | (simp; done) | (simp; omega) | omega) _ | refine Below.setCell ?_ (by first | (simp; done) | (simp; omega) | omega) _ | apply Below.drew | refine Below.trans ?_ (Below.mono (by assumption) (by first | (simp; done) | (simp; omega) | omega)))⟩
  · have h2 : 8 < n := by omega
    have h3 : ¬ n ≤ 8 := by omega
    go_enter Try.func9, Try.ntmps9
    go_wp2
    refine wp_scope_fwd 0 rfl ?_
    go_wp2
    (first | rw [fwd_ret] | rw [Exit.noGoto_ret] | skip)
    go_ret
    exact ⟨rfl, by repeat (first | exact Below.refl _ _ | assumption | refine Below.alloc ?_ (by first | (simp; done) | (simp; omega) | omega) _ | refine Below.setCell ?_ (by first | (simp; done) | (simp; omega) | omega) _ | apply Below.drew | refine Below.trans ?_ (Below.mono (by assumption) (by first | (simp; done) | (simp; omega) | omega)))⟩

set_option maxHeartbeats 2000000 in
theorem chk10_len (A : Option Addr) (len cap : Nat) (n : Int) (h1 : 1 ≤ n) (h2 : n ≤ 8) (h : 400 < len) (w : World) :
    Calls Try.prog 9 #[.slice A len cap, .int .i64 n] w fun e w' => e = .returned (.int .i64 3) ∧ Below w.heap.size w w' := by
  have hmm := @run_makeMap Try.prog
  have b1 : ¬ n < 1 := by omega
  have b2 : ¬ 8 < n := by omega
  have b3 : (400 : Int) < (len : Int) := by omega
  go_enter Try.func9, Try.ntmps9
  go_wp2
  refine wp_scope_fwd 0 rfl ?_
  go_wp2
  (first | rw [fwd_ret] | rw [Exit.noGoto_ret] | skip)
  go_ret
  exact ⟨rfl, by repeat (first | exact Below.refl _ _ | assumption | refine Below.alloc ?_ (by first | (simp; done) | (simp; omega) | omega) _ | refine Below.setCell ?_ (by first | (simp; done) | (simp; omega) | omega) _ | apply Below.drew | refine Below.trans ?_ (Below.mono (by assumption) (by first | (simp; done) | (simp; omega) | omega)))⟩
end Go.Proofs.Ytahfoogcdgjimaa
