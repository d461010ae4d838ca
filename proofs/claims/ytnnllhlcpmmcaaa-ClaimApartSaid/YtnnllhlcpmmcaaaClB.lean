/- Package claim: a machine made. -/
import Derived.Test.YtnnllhlcpmmcaaaClA
namespace Go.Proofs.Ytnnllhlcpmmcaaa
set_option linter.unusedVariables false
set_option linter.unusedSimpArgs false
open Go.RowKit

/-- A machine's cells: the plan, the claim, the place, how often it tried, what it saw, what it would get, what came of it. -/
def mkC (t sp : Int) (A : Option Addr) (len cap : Nat) (s n mo pl tr wa ge ga gg oe oa og : Int) : Nat → Value
  | 0 => .int .i64 t
  | 1 => .int .i64 sp
  | 2 => .slice A len cap
  | 3 => .int .i64 s
  | 4 => .int .i64 n
  | 5 => .int .i64 mo
  | 6 => .int .i64 pl
  | 7 => .int .i64 tr
  | 8 => .int .u64 wa
  | 9 => .int .i64 ge
  | 10 => .int .i64 ga
  | 11 => .int .i64 gg
  | 12 => .int .i64 oe
  | 13 => .int .i64 oa
  | 14 => .int .i64 og
  | _ => .int .i64 0

/-- A machine laid anew. -/
theorem newM_cells (W : World) (ty : TypeId) (t sp : Int) (A : Option Addr) (len cap : Nat) (s n mo pl tr wa ge ga gg oe oa og : Int) :
    IsM (W.alloc (.cells #[.int .i64 t, .int .i64 sp, .slice A len cap, .int .i64 s, .int .i64 n, .int .i64 mo, .int .i64 pl, .int .i64 tr, .int .u64 wa, .int .i64 ge, .int .i64 ga, .int .i64 gg, .int .i64 oe, .int .i64 oa, .int .i64 og] ty)) W.heap.size (mkC t sp A len cap s n mo pl tr wa ge ga gg oe oa og) := by
  refine ⟨by rw [World.size_alloc]; omega, fun i hi => ?_⟩
  have h : i = 0 ∨ i = 1 ∨ i = 2 ∨ i = 3 ∨ i = 4 ∨ i = 5 ∨ i = 6 ∨ i = 7 ∨ i = 8 ∨ i = 9 ∨ i = 10 ∨ i = 11 ∨ i = 12 ∨ i = 13 ∨ i = 14 := by omega
  rcases h with rfl | rfl | rfl | rfl | rfl | rfl | rfl | rfl | rfl | rfl | rfl | rfl | rfl | rfl | rfl <;> exact ⟨by go_simp; rfl, by go_simp⟩

/-- May the numbers of a claim be? -/
def asN (n mo : Int) : Bool := decide ((1 ≤ n ∧ n ≤ 4096) ∧ (mo = 0 ∨ n ≤ mo ∧ mo ≤ 4096))

set_option maxHeartbeats 2000000 in
theorem newM_no (t sp : Int) (A : Option Addr) (len cap : Nat) (S : Nat → ByteArray) (hlen : len ≤ 9223372036854775807) (hS : ∀ i, i < len → (S i).size ≤ 9223372036854775807) (s n mo : Int) (w : World) (H : ShOk w A len S)
    (hno : basE t sp s len S ≠ 0 ∨ asN n mo = false) :
    Calls Try.prog 11 #[.agg #[.int .i64 t, .int .i64 sp, .slice A len cap], .int .i64 s, .int .i64 n, .int .i64 mo] w
      fun e w' => e = .returned (.tuple #[.pointer none, .int .i64 2]) ∧ Below w.heap.size w w' := by
  have CB := hide (fun W (hW : Below w.heap.size w W) => layBase_any t sp s A len cap S hlen hS W (H.keep hW))
  by_cases hb : basE t sp s len S = 0
  · have hn : asN n mo = false := hno.resolve_left (fun h => h hb)
    rw [hb] at CB
    generalize basV t sp s len S = V at CB
    clear H hS hno hb
    have hn2 : ¬ ((1 ≤ n ∧ n ≤ 4096) ∧ (mo = 0 ∨ n ≤ mo ∧ mo ≤ 4096)) := by simpa [asN] using hn
    clear hn
    go_enter Try.func11, Try.ntmps11
    go_wp2
    refine wp_scope_fwd 0 rfl ?_
    go_wp2_with fail
    refine (unhide CB _ (by repeat (first | exact Below.refl _ _ | assumption | refine Below.alloc ?_ (by first | (simp; done) | (simp; omega) | omega) _ | refine Below.setCell ?_ (by first | (simp; done) | (simp; omega) | omega) _ | apply Below.drew | refine Below.trans ?_ (Below.mono (by assumption) (by first | (simp; done) | (simp; omega) | omega))))).mono ?_
    rintro e w1 ⟨rfl, hw1⟩; obtain ⟨hcw1, hfw1⟩ := bcell hw1; (try (simp only [World.size_drew, World.cell?_drew, World.frozen?_drew] at hcw1 hfw1)); have hzw1 := hw1.size; (try (simp only [World.size_alloc, World.size_setCell, World.size_drew] at hzw1)); (try (have hzw1_w_0 : w.heap.size < w1.heap.size := by omega)); (try (have hzw1_w_1 : w.heap.size + 1 < w1.heap.size := by omega)); (try (have hzw1_w_2 : w.heap.size + 1 + 1 < w1.heap.size := by omega)); (try (have hzw1_w_3 : w.heap.size + 1 + 1 + 1 < w1.heap.size := by omega)); (try (have hyw1_w : w.heap.size ≤ w1.heap.size := by omega)); (try (have hyw1_wa : w.heap.size + 1 ≤ w1.heap.size := by omega))
    have B1 : Below w.heap.size w w1 := by repeat (first | exact Below.refl _ _ | assumption | refine Below.alloc ?_ (by first | (simp; done) | (simp; omega) | omega) _ | refine Below.setCell ?_ (by first | (simp; done) | (simp; omega) | omega) _ | apply Below.drew | refine Below.trans ?_ (Below.mono (by assumption) (by first | (simp; done) | (simp; omega) | omega)))
    go_wp2
    all_goals first
      | ((go_step3; refine fwd_goto ?_; go_wp2); (first | rw [fwd_ret] | rw [Exit.noGoto_ret] | skip); go_ret2; exact ⟨rfl, by repeat (first | exact Below.refl _ _ | assumption | refine Below.alloc ?_ (by first | (simp; done) | (simp; omega) | omega) _ | refine Below.setCell ?_ (by first | (simp; done) | (simp; omega) | omega) _ | apply Below.drew | refine Below.trans ?_ (Below.mono (by assumption) (by first | (simp; done) | (simp; omega) | omega)))⟩)
      | (exfalso; simp at *; omega)
  · generalize basE t sp s len S = E at CB hb
    generalize basV t sp s len S = V at CB
    clear H hS hno
    go_enter Try.func11, Try.ntmps11
    go_wp2
    refine wp_scope_fwd 0 rfl ?_
    go_wp2_with fail
    refine (unhide CB _ (by repeat (first | exact Below.refl _ _ | assumption | refine Below.alloc ?_ (by first | (simp; done) | (simp; omega) | omega) _ | refine Below.setCell ?_ (by first | (simp; done) | (simp; omega) | omega) _ | apply Below.drew | refine Below.trans ?_ (Below.mono (by assumption) (by first | (simp; done) | (simp; omega) | omega))))).mono ?_
    rintro e w1 ⟨rfl, hw1⟩; obtain ⟨hcw1, hfw1⟩ := bcell hw1; (try (simp only [World.size_drew, World.cell?_drew, World.frozen?_drew] at hcw1 hfw1)); have hzw1 := hw1.size; (try (simp only [World.size_alloc, World.size_setCell, World.size_drew] at hzw1)); (try (have hzw1_w_0 : w.heap.size < w1.heap.size := by omega)); (try (have hzw1_w_1 : w.heap.size + 1 < w1.heap.size := by omega)); (try (have hzw1_w_2 : w.heap.size + 1 + 1 < w1.heap.size := by omega)); (try (have hzw1_w_3 : w.heap.size + 1 + 1 + 1 < w1.heap.size := by omega)); (try (have hyw1_w : w.heap.size ≤ w1.heap.size := by omega)); (try (have hyw1_wa : w.heap.size + 1 ≤ w1.heap.size := by omega))
    have B1 : Below w.heap.size w w1 := by repeat (first | exact Below.refl _ _ | assumption | refine Below.alloc ?_ (by first | (simp; done) | (simp; omega) | omega) _ | refine Below.setCell ?_ (by first | (simp; done) | (simp; omega) | omega) _ | apply Below.drew | refine Below.trans ?_ (Below.mono (by assumption) (by first | (simp; done) | (simp; omega) | omega)))
    go_wp2
    (go_step3; refine fwd_goto ?_; go_wp2)
    (first | rw [fwd_ret] | rw [Exit.noGoto_ret] | skip)
    go_ret2
    exact ⟨rfl, by repeat (first | exact Below.refl _ _ | assumption | refine Below.alloc ?_ (by first | (simp; done) | (simp; omega) | omega) _ | refine Below.setCell ?_ (by first | (simp; done) | (simp; omega) | omega) _ | apply Below.drew | refine Below.trans ?_ (Below.mono (by assumption) (by first | (simp; done) | (simp; omega) | omega)))⟩

set_option maxHeartbeats 2000000 in
theorem newM_ok (t sp : Int) (A : Option Addr) (len cap : Nat) (S : Nat → ByteArray) (hlen : len ≤ 9223372036854775807) (hS : ∀ i, i < len → (S i).size ≤ 9223372036854775807) (s n mo : Int) (w : World) (H : ShOk w A len S)
    (hb : basE t sp s len S = 0) (hn : asN n mo = true) :
    Calls Try.prog 11 #[.agg #[.int .i64 t, .int .i64 sp, .slice A len cap], .int .i64 s, .int .i64 n, .int .i64 mo] w
      fun e w' => ∃ m, w.heap.size ≤ m ∧ e = .returned (.tuple #[.pointer (some ⟨m, 0, none⟩), .int .i64 0]) ∧ IsM w' m (mkC t sp A len cap s n mo 1 0 0 0 0 0 0 0 0) ∧ Below w.heap.size w w' := by
  have CB := hide (fun W (hW : Below w.heap.size w W) => layBase_any t sp s A len cap S hlen hS W (H.keep hW))
  rw [hb] at CB
  generalize basV t sp s len S = V at CB
  clear H hS hb
  have hn2 : (1 ≤ n ∧ n ≤ 4096) ∧ (mo = 0 ∨ n ≤ mo ∧ mo ≤ 4096) := by simpa [asN] using hn
  clear hn
  obtain ⟨⟨n1, n2⟩, n3⟩ := hn2
  have n4 : ¬ (n < 1 ∨ 4096 < n) := by omega
  by_cases hm0 : mo = 0
  · subst hm0
    clear n3
    go_enter Try.func11, Try.ntmps11
    go_wp2
    refine wp_scope_fwd 0 rfl ?_
    go_wp2_with fail
    refine (unhide CB _ (by repeat (first | exact Below.refl _ _ | assumption | refine Below.alloc ?_ (by first | (simp; done) | (simp; omega) | omega) _ | refine Below.setCell ?_ (by first | (simp; done) | (simp; omega) | omega) _ | apply Below.drew | refine Below.trans ?_ (Below.mono (by assumption) (by first | (simp; done) | (simp; omega) | omega))))).mono ?_
    rintro e w1 ⟨rfl, hw1⟩; obtain ⟨hcw1, hfw1⟩ := bcell hw1; (try (simp only [World.size_drew, World.cell?_drew, World.frozen?_drew] at hcw1 hfw1)); have hzw1 := hw1.size; (try (simp only [World.size_alloc, World.size_setCell, World.size_drew] at hzw1)); (try (have hzw1_w_0 : w.heap.size < w1.heap.size := by omega)); (try (have hzw1_w_1 : w.heap.size + 1 < w1.heap.size := by omega)); (try (have hzw1_w_2 : w.heap.size + 1 + 1 < w1.heap.size := by omega)); (try (have hzw1_w_3 : w.heap.size + 1 + 1 + 1 < w1.heap.size := by omega)); (try (have hyw1_w : w.heap.size ≤ w1.heap.size := by omega)); (try (have hyw1_wa : w.heap.size + 1 ≤ w1.heap.size := by omega))
    have B1 : Below w.heap.size w w1 := by repeat (first | exact Below.refl _ _ | assumption | refine Below.alloc ?_ (by first | (simp; done) | (simp; omega) | omega) _ | refine Below.setCell ?_ (by first | (simp; done) | (simp; omega) | omega) _ | apply Below.drew | refine Below.trans ?_ (Below.mono (by assumption) (by first | (simp; done) | (simp; omega) | omega)))
    go_wp2
    (first | rw [fwd_ret] | rw [Exit.noGoto_ret] | skip)
    go_ret2
    exact ⟨_, by omega, rfl, newM_cells w1 _ _ _ _ _ _ _ _ _ _ _ _ _ _ _ _ _ _, by repeat (first | exact Below.refl _ _ | assumption | refine Below.alloc ?_ (by first | (simp; done) | (simp; omega) | omega) _ | refine Below.setCell ?_ (by first | (simp; done) | (simp; omega) | omega) _ | apply Below.drew | refine Below.trans ?_ (Below.mono (by assumption) (by first | (simp; done) | (simp; omega) | omega)))⟩
  · have n5 : n ≤ mo ∧ mo ≤ 4096 := n3.resolve_left hm0
    have n6 : ¬ (mo < n ∨ 4096 < mo) := by omega
    obtain ⟨n7, n8⟩ := n5
    clear n3
    go_enter Try.func11, Try.ntmps11
    go_wp2
    refine wp_scope_fwd 0 rfl ?_
    go_wp2_with fail
    refine (unhide CB _ (by repeat (first | exact Below.refl _ _ | assumption | refine Below.alloc ?_ (by first | (simp; done) | (simp; omega) | omega) _ | refine Below.setCell ?_ (by first | (simp; done) | (simp; omega) | omega) _ | apply Below.drew | refine Below.trans ?_ (Below.mono (by assumption) (by first | (simp; done) | (simp; omega) | omega))))).mono ?_
    rintro e w1 ⟨rfl, hw1⟩; obtain ⟨hcw1, hfw1⟩ := bcell hw1; (try (simp only [World.size_drew, World.cell?_drew, World.frozen?_drew] at hcw1 hfw1)); have hzw1 := hw1.size; (try (simp only [World.size_alloc, World.size_setCell, World.size_drew] at hzw1)); (try (have hzw1_w_0 : w.heap.size < w1.heap.size := by omega)); (try (have hzw1_w_1 : w.heap.size + 1 < w1.heap.size := by omega)); (try (have hzw1_w_2 : w.heap.size + 1 + 1 < w1.heap.size := by omega)); (try (have hzw1_w_3 : w.heap.size + 1 + 1 + 1 < w1.heap.size := by omega)); (try (have hyw1_w : w.heap.size ≤ w1.heap.size := by omega)); (try (have hyw1_wa : w.heap.size + 1 ≤ w1.heap.size := by omega))
    have B1 : Below w.heap.size w w1 := by repeat (first | exact Below.refl _ _ | assumption | refine Below.alloc ?_ (by first | (simp; done) | (simp; omega) | omega) _ | refine Below.setCell ?_ (by first | (simp; done) | (simp; omega) | omega) _ | apply Below.drew | refine Below.trans ?_ (Below.mono (by assumption) (by first | (simp; done) | (simp; omega) | omega)))
    go_wp2
    (first | rw [fwd_ret] | rw [Exit.noGoto_ret] | skip)
    go_ret2
    exact ⟨_, by omega, rfl, newM_cells w1 _ _ _ _ _ _ _ _ _ _ _ _ _ _ _ _ _ _, by repeat (first | exact Below.refl _ _ | assumption | refine Below.alloc ?_ (by first | (simp; done) | (simp; omega) | omega) _ | refine Below.setCell ?_ (by first | (simp; done) | (simp; omega) | omega) _ | apply Below.drew | refine Below.trans ?_ (Below.mono (by assumption) (by first | (simp; done) | (simp; omega) | omega)))⟩
end Go.Proofs.Ytnnllhlcpmmcaaa
