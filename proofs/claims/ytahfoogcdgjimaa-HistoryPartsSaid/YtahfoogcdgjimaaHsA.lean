/- The walks of package history: a call by itself; the same of its reference. -/
import Derived.Test.YtahfoogcdgjimaaProg
import Derived.Test.YtahfoogcdgjimaaLk
import Derived.Test.YtahfoogcdgjimaaRw
namespace Go.Proofs.Ytahfoogcdgjimaa
set_option linter.unusedVariables false
set_option linter.unusedSimpArgs false
open Go.RowKit

/-- May a call be, by itself? a: its cells; b: its answer's truth; d: is it done? -/
def oneB (a : Nat → Int) (b d : Bool) (n : Int) : Bool :=
  decide (0 ≤ a 0 ∧ a 0 < n ∧ 0 ≤ a 12) && (if d then decide (a 12 ≤ a 13) else decide (a 13 = 0 ∧ a 9 = 0 ∧ a 11 = 0) && !b)
def undB (a : Nat → Int) (d : Bool) (x : Int) : Bool := decide (a 12 ≤ x) && (!d || decide (x ≤ a 13))
def ahdB (a : Nat → Int) (d : Bool) (a' : Nat → Int) : Bool := d && decide (a 13 < a' 12)
def hasB (a : Nat → Int) (d : Bool) (x : Int) : Bool := decide (a 12 = x) || (d && decide (a 13 = x))
def twoB (a : Nat → Int) (d : Bool) (a' : Nat → Int) (d' : Bool) : Bool :=
  decide (a 12 < a' 12) && !hasB a' d' (a 12) && !(d && hasB a' d' (a 13)) && (decide (a 0 ≠ a' 0) || ahdB a d a')

theorem num10_any (x : Int) (w : World) : Calls Try.prog 8 #[.int .i64 x] w fun e w' => e = .returned (.int .i64 x) ∧ w = w' := by
  go_enter Try.func8, Try.ntmps8
  go_wp2
  go_ret
  exact ⟨rfl, rfl⟩

set_option maxHeartbeats 2000000 in
theorem right_any (a : Nat → Int) (b d : Bool) (n : Int) (w : World) :
    Calls Try.prog 25 #[.agg #[.int .i64 (a 0), .int .i64 (a 1), .int .i64 (a 2), .int .i64 (a 3), .int .i64 (a 4), .int .i64 (a 5), .int .i64 (a 6), .int .i64 (a 7), .int .i64 (a 8), .int .i64 (a 9), .bool b, .int .i64 (a 11), .int .i64 (a 12), .int .i64 (a 13), .bool d], .int .i64 n] w fun e w' => e = .returned (.bool (oneB a b d n)) ∧ Below w.heap.size w w' := by
  by_cases h1 : a 0 < 0
  · have hr : Hid (oneB a b d n = false) := hide (by unfold oneB; rw [show decide (0 ≤ a 0 ∧ a 0 < n ∧ 0 ≤ a 12) = false by simp; omega]; simp)
    go_enter Try.func25, Try.ntmps25
    go_wp2
    go_ret
    exact ⟨ret_bool (unhide hr).symm, by repeat (first | exact Below.refl _ _ | assumption | refine Below.alloc ?_ (by first | (simp; done) | (simp; omega) | omega) _ | refine Below.setCell ?_ (by first | (simp; done) | (simp; omega) | omega) _ | apply Below.drew | refine Below.trans ?_ (Below.mono (by assumption) (by first | (simp; done) | (simp; omega) | omega)))⟩
  by_cases h2 : n ≤ a 0
  · have hr : Hid (oneB a b d n = false) := hide (by unfold oneB; rw [show decide (0 ≤ a 0 ∧ a 0 < n ∧ 0 ≤ a 12) = false by simp; omega]; simp)
    go_enter Try.func25, Try.ntmps25
    go_wp2
    go_ret
    exact ⟨ret_bool (unhide hr).symm, by repeat (first | exact Below.refl _ _ | assumption | refine Below.alloc ?_ (by first | (simp; done) | (simp; omega) | omega) _ | refine Below.setCell ?_ (by first | (simp; done) | (simp; omega) | omega) _ | apply Below.drew | refine Below.trans ?_ (Below.mono (by assumption) (by first | (simp; done) | (simp; omega) | omega)))⟩
  by_cases h3 : a 12 < 0
  · have hr : Hid (oneB a b d n = false) := hide (by unfold oneB; rw [show decide (0 ≤ a 0 ∧ a 0 < n ∧ 0 ≤ a 12) = false by simp; omega]; simp)
    go_enter Try.func25, Try.ntmps25
    go_wp2
    go_ret
    exact ⟨ret_bool (unhide hr).symm, by repeat (first | exact Below.refl _ _ | assumption | refine Below.alloc ?_ (by first | (simp; done) | (simp; omega) | omega) _ | refine Below.setCell ?_ (by first | (simp; done) | (simp; omega) | omega) _ | apply Below.drew | refine Below.trans ?_ (Below.mono (by assumption) (by first | (simp; done) | (simp; omega) | omega)))⟩
  have ht : decide (0 ≤ a 0 ∧ a 0 < n ∧ 0 ≤ a 12) = true := by simp; omega
  cases d with
  | true =>
    have hr : Hid (oneB a b true n = decide (a 12 ≤ a 13)) := hide (by unfold oneB; rw [ht]; simp)
    clear ht
    go_enter Try.func25, Try.ntmps25
    go_wp2
    go_ret
    exact ⟨ret_bool (unhide hr).symm, by repeat (first | exact Below.refl _ _ | assumption | refine Below.alloc ?_ (by first | (simp; done) | (simp; omega) | omega) _ | refine Below.setCell ?_ (by first | (simp; done) | (simp; omega) | omega) _ | apply Below.drew | refine Below.trans ?_ (Below.mono (by assumption) (by first | (simp; done) | (simp; omega) | omega)))⟩
  | false =>
    have hr : Hid (oneB a b false n = (decide (a 13 = 0 ∧ a 9 = 0 ∧ a 11 = 0) && !b)) := hide (by unfold oneB; rw [ht]; simp)
    clear ht
    by_cases h4 : a 13 = 0
    · have h4b : (a 13 == 0) = true := by simpa using h4
      by_cases h5 : a 9 = 0 ∧ a 11 = 0 ∧ b = false
      · obtain ⟨h9, h11, rfl⟩ := h5
        have h9b : (a 9 == 0) = true := by simpa using h9
        have h11b : (a 11 == 0) = true := by simpa using h11
        have hv : Hid (oneB a false false n = true) := hide (by rw [unhide hr]; simp [h4, h9, h11])
        clear h4 h9 h11 hr
        go_enter Try.func25, Try.ntmps25
        go_wp2
        all_goals go_ret
        all_goals first | (exfalso; simp_all; done) | exact ⟨ret_bool (unhide hv).symm, by repeat (first | exact Below.refl _ _ | assumption | refine Below.alloc ?_ (by first | (simp; done) | (simp; omega) | omega) _ | refine Below.setCell ?_ (by first | (simp; done) | (simp; omega) | omega) _ | apply Below.drew | refine Below.trans ?_ (Below.mono (by assumption) (by first | (simp; done) | (simp; omega) | omega)))⟩
      · have hv : Hid (oneB a b false n = false) := hide (by
          rw [unhide hr]
          cases b with
          | true => simp
          | false => simp [h4]; intro x y; exact h5 ⟨x, y, rfl⟩)
        have h6 : (a 9 == 0) = false ∨ b = true ∨ (a 11 == 0) = false := by
          by_cases h9 : a 9 = 0
          · cases b with
            | true => exact .inr (.inl rfl)
            | false => exact .inr (.inr (by simp; intro h; exact h5 ⟨h9, h, rfl⟩))
          · exact .inl (by simpa using h9)
        clear h4 h5 hr
        rcases h6 with h6 | rfl | h6
        all_goals
          go_enter Try.func25, Try.ntmps25
          go_wp2
          all_goals go_ret
          all_goals exact ⟨ret_bool (unhide hv).symm, by repeat (first | exact Below.refl _ _ | assumption | refine Below.alloc ?_ (by first | (simp; done) | (simp; omega) | omega) _ | refine Below.setCell ?_ (by first | (simp; done) | (simp; omega) | omega) _ | apply Below.drew | refine Below.trans ?_ (Below.mono (by assumption) (by first | (simp; done) | (simp; omega) | omega)))⟩
    · have h4b : (a 13 == 0) = false := by simpa using h4
      have hv : Hid (oneB a b false n = false) := hide (by rw [unhide hr]; simp [h4])
      clear h4 hr
      go_enter Try.func25, Try.ntmps25
      go_wp2
      go_ret
      exact ⟨ret_bool (unhide hv).symm, by repeat (first | exact Below.refl _ _ | assumption | refine Below.alloc ?_ (by first | (simp; done) | (simp; omega) | omega) _ | refine Below.setCell ?_ (by first | (simp; done) | (simp; omega) | omega) _ | apply Below.drew | refine Below.trans ?_ (Below.mono (by assumption) (by first | (simp; done) | (simp; omega) | omega)))⟩
set_option maxHeartbeats 2000000 in
theorem one_any (a : Nat → Int) (b d : Bool) (n : Int) (w : World) :
    Calls Try.prog 27 #[.agg #[.int .i64 (a 0), .int .i64 (a 1), .int .i64 (a 2), .int .i64 (a 3), .int .i64 (a 4), .int .i64 (a 5), .int .i64 (a 6), .int .i64 (a 7), .int .i64 (a 8), .int .i64 (a 9), .bool b, .int .i64 (a 11), .int .i64 (a 12), .int .i64 (a 13), .bool d], .int .i64 n] w fun e w' => e = .returned (.bool (oneB a b d n)) ∧ Below w.heap.size w w' := by
  by_cases h1 : a 0 < 0
  · have hr : Hid (oneB a b d n = false) := hide (by unfold oneB; rw [show decide (0 ≤ a 0 ∧ a 0 < n ∧ 0 ≤ a 12) = false by simp; omega]; simp)
    go_enter Try.func27, Try.ntmps27
    go_wp2
    go_ret
    exact ⟨ret_bool (unhide hr).symm, by repeat (first | exact Below.refl _ _ | assumption | refine Below.alloc ?_ (by first | (simp; done) | (simp; omega) | omega) _ | refine Below.setCell ?_ (by first | (simp; done) | (simp; omega) | omega) _ | apply Below.drew | refine Below.trans ?_ (Below.mono (by assumption) (by first | (simp; done) | (simp; omega) | omega)))⟩
  by_cases h2 : n ≤ a 0
  · have hr : Hid (oneB a b d n = false) := hide (by unfold oneB; rw [show decide (0 ≤ a 0 ∧ a 0 < n ∧ 0 ≤ a 12) = false by simp; omega]; simp)
    go_enter Try.func27, Try.ntmps27
    go_wp2
    go_ret
    exact ⟨ret_bool (unhide hr).symm, by repeat (first | exact Below.refl _ _ | assumption | refine Below.alloc ?_ (by first | (simp; done) | (simp; omega) | omega) _ | refine Below.setCell ?_ (by first | (simp; done) | (simp; omega) | omega) _ | apply Below.drew | refine Below.trans ?_ (Below.mono (by assumption) (by first | (simp; done) | (simp; omega) | omega)))⟩
  by_cases h3 : a 12 < 0
  · have hr : Hid (oneB a b d n = false) := hide (by unfold oneB; rw [show decide (0 ≤ a 0 ∧ a 0 < n ∧ 0 ≤ a 12) = false by simp; omega]; simp)
    go_enter Try.func27, Try.ntmps27
    go_wp2
    go_ret
    exact ⟨ret_bool (unhide hr).symm, by repeat (first | exact Below.refl _ _ | assumption | refine Below.alloc ?_ (by first | (simp; done) | (simp; omega) | omega) _ | refine Below.setCell ?_ (by first | (simp; done) | (simp; omega) | omega) _ | apply Below.drew | refine Below.trans ?_ (Below.mono (by assumption) (by first | (simp; done) | (simp; omega) | omega)))⟩
  have ht : decide (0 ≤ a 0 ∧ a 0 < n ∧ 0 ≤ a 12) = true := by simp; omega
  cases d with
  | true =>
    have hr : Hid (oneB a b true n = decide (a 12 ≤ a 13)) := hide (by unfold oneB; rw [ht]; simp)
    clear ht
    go_enter Try.func27, Try.ntmps27
    go_wp2
    go_ret
    exact ⟨ret_bool (unhide hr).symm, by repeat (first | exact Below.refl _ _ | assumption | refine Below.alloc ?_ (by first | (simp; done) | (simp; omega) | omega) _ | refine Below.setCell ?_ (by first | (simp; done) | (simp; omega) | omega) _ | apply Below.drew | refine Below.trans ?_ (Below.mono (by assumption) (by first | (simp; done) | (simp; omega) | omega)))⟩
  | false =>
    have hr : Hid (oneB a b false n = (decide (a 13 = 0 ∧ a 9 = 0 ∧ a 11 = 0) && !b)) := hide (by unfold oneB; rw [ht]; simp)
    clear ht
    by_cases h4 : a 13 = 0
    · have h4b : (a 13 == 0) = true := by simpa using h4
      by_cases h5 : a 9 = 0 ∧ a 11 = 0 ∧ b = false
      · obtain ⟨h9, h11, rfl⟩ := h5
        have h9b : (a 9 == 0) = true := by simpa using h9
        have h11b : (a 11 == 0) = true := by simpa using h11
        have hv : Hid (oneB a false false n = true) := hide (by rw [unhide hr]; simp [h4, h9, h11])
        clear h4 h9 h11 hr
        go_enter Try.func27, Try.ntmps27
        go_wp2
        all_goals go_ret
        all_goals first | (exfalso; simp_all; done) | exact ⟨ret_bool (unhide hv).symm, by repeat (first | exact Below.refl _ _ | assumption | refine Below.alloc ?_ (by first | (simp; done) | (simp; omega) | omega) _ | refine Below.setCell ?_ (by first | (simp; done) | (simp; omega) | omega) _ | apply Below.drew | refine Below.trans ?_ (Below.mono (by assumption) (by first | (simp; done) | (simp; omega) | omega)))⟩
      · have hv : Hid (oneB a b false n = false) := hide (by
          rw [unhide hr]
          cases b with
          | true => simp
          | false => simp [h4]; intro x y; exact h5 ⟨x, y, rfl⟩)
        have h6 : (a 9 == 0) = false ∨ b = true ∨ (a 11 == 0) = false := by
          by_cases h9 : a 9 = 0
          · cases b with
            | true => exact .inr (.inl rfl)
            | false => exact .inr (.inr (by simp; intro h; exact h5 ⟨h9, h, rfl⟩))
          · exact .inl (by simpa using h9)
        clear h4 h5 hr
        rcases h6 with h6 | rfl | h6
        all_goals
          go_enter Try.func27, Try.ntmps27
          go_wp2
          all_goals go_ret
          all_goals exact ⟨ret_bool (unhide hv).symm, by repeat (first | exact Below.refl _ _ | assumption | refine Below.alloc ?_ (by first | (simp; done) | (simp; omega) | omega) _ | refine Below.setCell ?_ (by first | (simp; done) | (simp; omega) | omega) _ | apply Below.drew | refine Below.trans ?_ (Below.mono (by assumption) (by first | (simp; done) | (simp; omega) | omega)))⟩
    · have h4b : (a 13 == 0) = false := by simpa using h4
      have hv : Hid (oneB a b false n = false) := hide (by rw [unhide hr]; simp [h4])
      clear h4 hr
      go_enter Try.func27, Try.ntmps27
      go_wp2
      go_ret
      exact ⟨ret_bool (unhide hv).symm, by repeat (first | exact Below.refl _ _ | assumption | refine Below.alloc ?_ (by first | (simp; done) | (simp; omega) | omega) _ | refine Below.setCell ?_ (by first | (simp; done) | (simp; omega) | omega) _ | apply Below.drew | refine Below.trans ?_ (Below.mono (by assumption) (by first | (simp; done) | (simp; omega) | omega)))⟩

set_option maxHeartbeats 2000000 in
theorem under_any (a : Nat → Int) (b d : Bool) (x : Int) (w : World) :
    Calls Try.prog 34 #[.agg #[.int .i64 (a 0), .int .i64 (a 1), .int .i64 (a 2), .int .i64 (a 3), .int .i64 (a 4), .int .i64 (a 5), .int .i64 (a 6), .int .i64 (a 7), .int .i64 (a 8), .int .i64 (a 9), .bool b, .int .i64 (a 11), .int .i64 (a 12), .int .i64 (a 13), .bool d], .int .i64 x] w fun e w' => e = .returned (.bool (undB a d x)) ∧ Below w.heap.size w w' := by
  by_cases h1 : a 12 ≤ x
  · cases d with
    | true =>
      go_enter Try.func34, Try.ntmps34
      go_wp2
      go_ret
      exact ⟨ret_bool (by simp [undB, h1]), by repeat (first | exact Below.refl _ _ | assumption | refine Below.alloc ?_ (by first | (simp; done) | (simp; omega) | omega) _ | refine Below.setCell ?_ (by first | (simp; done) | (simp; omega) | omega) _ | apply Below.drew | refine Below.trans ?_ (Below.mono (by assumption) (by first | (simp; done) | (simp; omega) | omega)))⟩
    | false =>
      go_enter Try.func34, Try.ntmps34
      go_wp2
      go_ret
      exact ⟨ret_bool (by simp [undB, h1]), by repeat (first | exact Below.refl _ _ | assumption | refine Below.alloc ?_ (by first | (simp; done) | (simp; omega) | omega) _ | refine Below.setCell ?_ (by first | (simp; done) | (simp; omega) | omega) _ | apply Below.drew | refine Below.trans ?_ (Below.mono (by assumption) (by first | (simp; done) | (simp; omega) | omega)))⟩
  · go_enter Try.func34, Try.ntmps34
    go_wp2
    go_ret
    exact ⟨ret_bool (by rw [undB, show decide (a 12 ≤ x) = false by simp; omega]; simp), by repeat (first | exact Below.refl _ _ | assumption | refine Below.alloc ?_ (by first | (simp; done) | (simp; omega) | omega) _ | refine Below.setCell ?_ (by first | (simp; done) | (simp; omega) | omega) _ | apply Below.drew | refine Below.trans ?_ (Below.mono (by assumption) (by first | (simp; done) | (simp; omega) | omega)))⟩
set_option maxHeartbeats 2000000 in
theorem refUnder_any (a : Nat → Int) (b d : Bool) (x : Int) (w : World) :
    Calls Try.prog 35 #[.agg #[.int .i64 (a 0), .int .i64 (a 1), .int .i64 (a 2), .int .i64 (a 3), .int .i64 (a 4), .int .i64 (a 5), .int .i64 (a 6), .int .i64 (a 7), .int .i64 (a 8), .int .i64 (a 9), .bool b, .int .i64 (a 11), .int .i64 (a 12), .int .i64 (a 13), .bool d], .int .i64 x] w fun e w' => e = .returned (.bool (undB a d x)) ∧ Below w.heap.size w w' := by
  by_cases h1 : a 12 ≤ x
  · cases d with
    | true =>
      go_enter Try.func35, Try.ntmps35
      go_wp2
      go_ret
      exact ⟨ret_bool (by simp [undB, h1]), by repeat (first | exact Below.refl _ _ | assumption | refine Below.alloc ?_ (by first | (simp; done) | (simp; omega) | omega) _ | refine Below.setCell ?_ (by first | (simp; done) | (simp; omega) | omega) _ | apply Below.drew | refine Below.trans ?_ (Below.mono (by assumption) (by first | (simp; done) | (simp; omega) | omega)))⟩
    | false =>
      go_enter Try.func35, Try.ntmps35
      go_wp2
      go_ret
      exact ⟨ret_bool (by simp [undB, h1]), by repeat (first | exact Below.refl _ _ | assumption | refine Below.alloc ?_ (by first | (simp; done) | (simp; omega) | omega) _ | refine Below.setCell ?_ (by first | (simp; done) | (simp; omega) | omega) _ | apply Below.drew | refine Below.trans ?_ (Below.mono (by assumption) (by first | (simp; done) | (simp; omega) | omega)))⟩
  · go_enter Try.func35, Try.ntmps35
    go_wp2
    go_ret
    exact ⟨ret_bool (by rw [undB, show decide (a 12 ≤ x) = false by simp; omega]; simp), by repeat (first | exact Below.refl _ _ | assumption | refine Below.alloc ?_ (by first | (simp; done) | (simp; omega) | omega) _ | refine Below.setCell ?_ (by first | (simp; done) | (simp; omega) | omega) _ | apply Below.drew | refine Below.trans ?_ (Below.mono (by assumption) (by first | (simp; done) | (simp; omega) | omega)))⟩

set_option maxHeartbeats 2000000 in
theorem ahead_any (a : Nat → Int) (b d : Bool) (a' : Nat → Int) (b' d' : Bool) (w : World) :
    Calls Try.prog 11 #[.agg #[.int .i64 (a 0), .int .i64 (a 1), .int .i64 (a 2), .int .i64 (a 3), .int .i64 (a 4), .int .i64 (a 5), .int .i64 (a 6), .int .i64 (a 7), .int .i64 (a 8), .int .i64 (a 9), .bool b, .int .i64 (a 11), .int .i64 (a 12), .int .i64 (a 13), .bool d], .agg #[.int .i64 (a' 0), .int .i64 (a' 1), .int .i64 (a' 2), .int .i64 (a' 3), .int .i64 (a' 4), .int .i64 (a' 5), .int .i64 (a' 6), .int .i64 (a' 7), .int .i64 (a' 8), .int .i64 (a' 9), .bool b', .int .i64 (a' 11), .int .i64 (a' 12), .int .i64 (a' 13), .bool d']] w fun e w' => e = .returned (.bool (ahdB a d a')) ∧ Below w.heap.size w w' := by
  cases d with
  | true =>
    go_enter Try.func11, Try.ntmps11
    go_wp2
    go_ret
    exact ⟨ret_bool (by simp [ahdB]), by repeat (first | exact Below.refl _ _ | assumption | refine Below.alloc ?_ (by first | (simp; done) | (simp; omega) | omega) _ | refine Below.setCell ?_ (by first | (simp; done) | (simp; omega) | omega) _ | apply Below.drew | refine Below.trans ?_ (Below.mono (by assumption) (by first | (simp; done) | (simp; omega) | omega)))⟩
  | false =>
    go_enter Try.func11, Try.ntmps11
    go_wp2
    go_ret
    exact ⟨ret_bool (by simp [ahdB]), by repeat (first | exact Below.refl _ _ | assumption | refine Below.alloc ?_ (by first | (simp; done) | (simp; omega) | omega) _ | refine Below.setCell ?_ (by first | (simp; done) | (simp; omega) | omega) _ | apply Below.drew | refine Below.trans ?_ (Below.mono (by assumption) (by first | (simp; done) | (simp; omega) | omega)))⟩
set_option maxHeartbeats 2000000 in
theorem refAhead_any (a : Nat → Int) (b d : Bool) (a' : Nat → Int) (b' d' : Bool) (w : World) :
    Calls Try.prog 13 #[.agg #[.int .i64 (a 0), .int .i64 (a 1), .int .i64 (a 2), .int .i64 (a 3), .int .i64 (a 4), .int .i64 (a 5), .int .i64 (a 6), .int .i64 (a 7), .int .i64 (a 8), .int .i64 (a 9), .bool b, .int .i64 (a 11), .int .i64 (a 12), .int .i64 (a 13), .bool d], .agg #[.int .i64 (a' 0), .int .i64 (a' 1), .int .i64 (a' 2), .int .i64 (a' 3), .int .i64 (a' 4), .int .i64 (a' 5), .int .i64 (a' 6), .int .i64 (a' 7), .int .i64 (a' 8), .int .i64 (a' 9), .bool b', .int .i64 (a' 11), .int .i64 (a' 12), .int .i64 (a' 13), .bool d']] w fun e w' => e = .returned (.bool (ahdB a d a')) ∧ Below w.heap.size w w' := by
  cases d with
  | true =>
    go_enter Try.func13, Try.ntmps13
    go_wp2
    go_ret
    exact ⟨ret_bool (by simp [ahdB]), by repeat (first | exact Below.refl _ _ | assumption | refine Below.alloc ?_ (by first | (simp; done) | (simp; omega) | omega) _ | refine Below.setCell ?_ (by first | (simp; done) | (simp; omega) | omega) _ | apply Below.drew | refine Below.trans ?_ (Below.mono (by assumption) (by first | (simp; done) | (simp; omega) | omega)))⟩
  | false =>
    go_enter Try.func13, Try.ntmps13
    go_wp2
    go_ret
    exact ⟨ret_bool (by simp [ahdB]), by repeat (first | exact Below.refl _ _ | assumption | refine Below.alloc ?_ (by first | (simp; done) | (simp; omega) | omega) _ | refine Below.setCell ?_ (by first | (simp; done) | (simp; omega) | omega) _ | apply Below.drew | refine Below.trans ?_ (Below.mono (by assumption) (by first | (simp; done) | (simp; omega) | omega)))⟩

set_option maxHeartbeats 2000000 in
theorem has10_any (a : Nat → Int) (b d : Bool) (x : Int) (w : World) :
    Calls Try.prog 37 #[.agg #[.int .i64 (a 0), .int .i64 (a 1), .int .i64 (a 2), .int .i64 (a 3), .int .i64 (a 4), .int .i64 (a 5), .int .i64 (a 6), .int .i64 (a 7), .int .i64 (a 8), .int .i64 (a 9), .bool b, .int .i64 (a 11), .int .i64 (a 12), .int .i64 (a 13), .bool d], .int .i64 x] w fun e w' => e = .returned (.bool (hasB a d x)) ∧ Below w.heap.size w w' := by
  by_cases h1 : a 12 = x
  · have h1b : (a 12 == x) = true := by simpa using h1
    have hr : Hid (hasB a d x = true) := hide (by simp [hasB, h1])
    clear h1
    go_enter Try.func37, Try.ntmps37
    go_wp2
    go_ret
    exact ⟨ret_bool (unhide hr).symm, by repeat (first | exact Below.refl _ _ | assumption | refine Below.alloc ?_ (by first | (simp; done) | (simp; omega) | omega) _ | refine Below.setCell ?_ (by first | (simp; done) | (simp; omega) | omega) _ | apply Below.drew | refine Below.trans ?_ (Below.mono (by assumption) (by first | (simp; done) | (simp; omega) | omega)))⟩
  · have h1b : (a 12 == x) = false := by simpa using h1
    cases d with
    | true =>
      go_enter Try.func37, Try.ntmps37
      go_wp2
      go_ret
      exact ⟨ret_bool (by simp [hasB, h1, Bool.beq_eq_decide_eq]), by repeat (first | exact Below.refl _ _ | assumption | refine Below.alloc ?_ (by first | (simp; done) | (simp; omega) | omega) _ | refine Below.setCell ?_ (by first | (simp; done) | (simp; omega) | omega) _ | apply Below.drew | refine Below.trans ?_ (Below.mono (by assumption) (by first | (simp; done) | (simp; omega) | omega)))⟩
    | false =>
      go_enter Try.func37, Try.ntmps37
      go_wp2
      go_ret
      exact ⟨ret_bool (by simp [hasB, h1]), by repeat (first | exact Below.refl _ _ | assumption | refine Below.alloc ?_ (by first | (simp; done) | (simp; omega) | omega) _ | refine Below.setCell ?_ (by first | (simp; done) | (simp; omega) | omega) _ | apply Below.drew | refine Below.trans ?_ (Below.mono (by assumption) (by first | (simp; done) | (simp; omega) | omega)))⟩

end Go.Proofs.Ytahfoogcdgjimaa
