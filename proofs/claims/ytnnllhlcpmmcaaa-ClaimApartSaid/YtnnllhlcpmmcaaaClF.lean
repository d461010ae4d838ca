/- Package claim: a swap's answer. -/
import Derived.Test.YtnnllhlcpmmcaaaClE
namespace Go.Proofs.Ytnnllhlcpmmcaaa
set_option linter.unusedVariables false
set_option linter.unusedSimpArgs false
open Go.RowKit

set_option maxHeartbeats 2000000 in
theorem swapped_won (m : Nat) (t sp : Int) (A : Option Addr) (len cap : Nat) (s n mo pl tr wa ge ga gg oe oa og : Int) (w : World) (H : IsM w m (mkC t sp A len cap s n mo pl tr wa ge ga gg oe oa og)) :
    Calls Try.prog 39 #[.pointer (some ⟨m, 0, none⟩), .int .u64 wa] w
      fun en w' => en = .returned (.tuple #[.agg #[.int .i64 0, .int .i64 0, .int .u64 0, .int .u64 0], .bool false]) ∧ McTo w w' m (endC (mkC t sp A len cap s n mo pl tr wa ge ga gg oe oa og) ge ga gg) := by
  have C := hide (fun W (hW : IsM W m (mkC t sp A len cap s n mo pl tr wa ge ga gg oe oa og)) => end_any m _ ge ga gg W hW ⟨_, rfl⟩ ⟨_, _, _, rfl, rfl, rfl⟩)
  have HH := hide H
  have hm := H.1
  have hmne : w.heap.size ≠ m := by omega
  have hmne2 : m ≠ w.heap.size := by omega
  have c8 : w.cell? ⟨m, 8, none⟩ = some (.int .u64 wa) := (H.2 8 (by omega)).1
  have c9 : w.cell? ⟨m, 9, none⟩ = some (.int .i64 ge) := (H.2 9 (by omega)).1
  have c10 : w.cell? ⟨m, 10, none⟩ = some (.int .i64 ga) := (H.2 10 (by omega)).1
  have c11 : w.cell? ⟨m, 11, none⟩ = some (.int .i64 gg) := (H.2 11 (by omega)).1
  clear H
  go_enter Try.func39, Try.ntmps39
  go_wp2_with fail
  refine (unhide C _ ((unhide HH).alloc _)).mono ?_
  rintro en w1 ⟨rfl, hw1⟩
  have hg := hw1.1.size
  have hsz : w.heap.size < w1.heap.size := by rw [World.size_alloc] at hg; omega
  have hG := hide (show w.grownBy w1 (some m) from gr_trans (gr_alloc (gr_refl _ _) _) hw1.1)
  have HI := hide hw1.2
  have r0 : ∀ i, w1.cell? ⟨w.heap.size, i, none⟩ = (w.alloc (.cells #[.int .i64 0, .int .i64 0, .int .u64 0, .int .u64 0] 44)).cell? ⟨w.heap.size, i, none⟩ := fun i =>
    gr_cell hw1.1 (by rw [World.size_alloc]; omega) hmne i
  have r1 : ∀ i, w1.frozen? ⟨w.heap.size, i, none⟩ = (w.alloc (.cells #[.int .i64 0, .int .i64 0, .int .u64 0, .int .u64 0] 44)).frozen? ⟨w.heap.size, i, none⟩ := fun i =>
    gr_frozen hw1.1 (by rw [World.size_alloc]; omega) hmne i
  clear hw1 hg c8 c9 c10 c11
  go_wp2
  refine bodyPost_ret (v := .tuple #[.agg #[.int .i64 0, .int .i64 0, .int .u64 0, .int .u64 0], .bool false]) (by simp only [results, Try.results39]; go_simp) rfl ?_
  refine ⟨rfl, ?_, ?_⟩
  · (repeat (first | (with_reducible exact unhide hG) | (with_reducible refine gr_drew ?_) | (with_reducible refine gr_alloc ?_ _) | (with_reducible refine gr_set ?_ _) | (with_reducible refine gr_new ?_ (by omega) _))); done
  · (repeat (first | (with_reducible exact unhide HI) | (with_reducible refine IsM.drew ?_) | (with_reducible refine IsM.alloc ?_ _) | (with_reducible refine IsM.set ?_ (by omega) _) | (with_reducible refine IsM.far ?_ (by omega) _))); done

theorem tr_eq {t sp : Int} {A : Option Addr} {len cap : Nat} {s n mo pl tr wa ge ga gg oe oa og b : Int} : ∀ i, i < 15 →
    up (mkC t sp A len cap s n mo pl tr wa ge ga gg oe oa og) 7 (.int .i64 b) i = mkC t sp A len cap s n mo pl b wa ge ga gg oe oa og i := fun i hi => by
  have h : i = 0 ∨ i = 1 ∨ i = 2 ∨ i = 3 ∨ i = 4 ∨ i = 5 ∨ i = 6 ∨ i = 7 ∨ i = 8 ∨ i = 9 ∨ i = 10 ∨ i = 11 ∨ i = 12 ∨ i = 13 ∨ i = 14 := by omega
  rcases h with rfl | rfl | rfl | rfl | rfl | rfl | rfl | rfl | rfl | rfl | rfl | rfl | rfl | rfl | rfl <;> rfl

set_option maxHeartbeats 2000000 in
theorem swapped_busy (m : Nat) (t sp : Int) (A : Option Addr) (len cap : Nat) (s n mo pl tr wa ge ga gg oe oa og x : Int) (w : World) (H : IsM w m (mkC t sp A len cap s n mo pl tr wa ge ga gg oe oa og)) (hx : x ≠ wa) (htr : tr = 1) :
    Calls Try.prog 39 #[.pointer (some ⟨m, 0, none⟩), .int .u64 x] w
      fun en w' => en = .returned (.tuple #[.agg #[.int .i64 0, .int .i64 0, .int .u64 0, .int .u64 0], .bool false]) ∧ McTo w w' m (endC (mkC t sp A len cap s n mo pl 2 wa ge ga gg oe oa og) 185 0 0) := by
  subst htr
  have C := hide (fun W (hW : IsM W m (mkC t sp A len cap s n mo pl 2 wa ge ga gg oe oa og)) => end_any m _ 185 0 0 W hW ⟨_, rfl⟩ ⟨_, _, _, rfl, rfl, rfl⟩)
  have HH := hide H
  have hm := H.1
  have hmne : w.heap.size ≠ m := by omega
  have hmne2 : m ≠ w.heap.size := by omega
  have hx' : (x == wa) = false := by simpa using hx
  have c8 : w.cell? ⟨m, 8, none⟩ = some (.int .u64 wa) := (H.2 8 (by omega)).1
  have c7 : w.cell? ⟨m, 7, none⟩ = some (.int .i64 1) := (H.2 7 (by omega)).1
  have k7 := (H.2 7 (by omega)).2
  have HT := hide (((unhide HH).set (i := 7) (by omega) (.int .i64 2)).congr tr_eq)
  have HGT := hide (gr_set (i := 7) (gr_refl w (some m)) (.int .i64 2))
  clear H
  go_enter Try.func39, Try.ntmps39
  go_wp2_with fail
  refine (unhide C _ ((unhide HT).alloc _)).mono ?_
  rintro en w1 ⟨rfl, hw1⟩
  have hg := hw1.1.size
  have hsz : w.heap.size < w1.heap.size := by simp only [World.size_alloc, World.size_setCell] at hg; omega
  have hG := hide (show w.grownBy w1 (some m) from gr_trans (gr_alloc (unhide HGT) _) hw1.1)
  have HI := hide hw1.2
  have r0 : ∀ i, w1.cell? ⟨w.heap.size, i, none⟩ = ((w.setCell ⟨m, 7, none⟩ (.int .i64 2)).alloc (.cells #[.int .i64 0, .int .i64 0, .int .u64 0, .int .u64 0] 44)).cell? ⟨w.heap.size, i, none⟩ := fun i =>
    gr_cell hw1.1 (by simp only [World.size_alloc, World.size_setCell]; omega) hmne i
  have r1 : ∀ i, w1.frozen? ⟨w.heap.size, i, none⟩ = ((w.setCell ⟨m, 7, none⟩ (.int .i64 2)).alloc (.cells #[.int .i64 0, .int .i64 0, .int .u64 0, .int .u64 0] 44)).frozen? ⟨w.heap.size, i, none⟩ := fun i =>
    gr_frozen hw1.1 (by simp only [World.size_alloc, World.size_setCell]; omega) hmne i
  clear hw1 hg c8 c7 k7
  go_wp2
  refine bodyPost_ret (v := .tuple #[.agg #[.int .i64 0, .int .i64 0, .int .u64 0, .int .u64 0], .bool false]) (by simp only [results, Try.results39]; go_simp) rfl ?_
  refine ⟨rfl, ?_, ?_⟩
  · (repeat (first | (with_reducible exact unhide hG) | (with_reducible refine gr_drew ?_) | (with_reducible refine gr_alloc ?_ _) | (with_reducible refine gr_set ?_ _) | (with_reducible refine gr_new ?_ (by omega) _))); done
  · (repeat (first | (with_reducible exact unhide HI) | (with_reducible refine IsM.drew ?_) | (with_reducible refine IsM.alloc ?_ _) | (with_reducible refine IsM.set ?_ (by omega) _) | (with_reducible refine IsM.far ?_ (by omega) _))); done

set_option maxHeartbeats 2000000 in
theorem swapped_again (m : Nat) (t sp : Int) (A : Option Addr) (len cap : Nat) (s n mo pl tr wa ge ga gg oe oa og x : Int) (w : World) (H : IsM w m (mkC t sp A len cap s n mo pl tr wa ge ga gg oe oa og)) (hx : x ≠ wa) (htr : tr = 0) (a0 a1 a2 a3 : Int) (b : Bool) (c' : Nat → Value) (CL : ∀ W, w.grownBy W (some m) → IsM W m (mkC t sp A len cap s n mo pl 1 wa ge ga gg oe oa og) → Calls Try.prog 38 #[.pointer (some ⟨m, 0, none⟩), .int .u64 x] W fun en w' => en = .returned (.tuple #[.agg #[.int .i64 a0, .int .i64 a1, .int .u64 a2, .int .u64 a3], .bool b]) ∧ McTo W w' m c') :
    Calls Try.prog 39 #[.pointer (some ⟨m, 0, none⟩), .int .u64 x] w
      fun en w' => en = .returned (.tuple #[.agg #[.int .i64 a0, .int .i64 a1, .int .u64 a2, .int .u64 a3], .bool b]) ∧ McTo w w' m (c') := by
  subst htr
  have C := hide CL
  clear CL
  have HH := hide H
  have hm := H.1
  have hmne : w.heap.size ≠ m := by omega
  have hmne2 : m ≠ w.heap.size := by omega
  have hx' : (x == wa) = false := by simpa using hx
  have c8 : w.cell? ⟨m, 8, none⟩ = some (.int .u64 wa) := (H.2 8 (by omega)).1
  have c7 : w.cell? ⟨m, 7, none⟩ = some (.int .i64 0) := (H.2 7 (by omega)).1
  have k7 := (H.2 7 (by omega)).2
  have HT := hide (((unhide HH).set (i := 7) (by omega) (.int .i64 1)).congr tr_eq)
  have HGT := hide (gr_set (i := 7) (gr_refl w (some m)) (.int .i64 1))
  clear H
  go_enter Try.func39, Try.ntmps39
  go_wp2_with fail
  refine (unhide C _ (gr_alloc (unhide HGT) _) ((unhide HT).alloc _)).mono ?_
  rintro en w1 ⟨rfl, hw1⟩
  have hg := hw1.1.size
  have hsz : w.heap.size < w1.heap.size := by simp only [World.size_alloc, World.size_setCell] at hg; omega
  have hG := hide (show w.grownBy w1 (some m) from gr_trans (gr_alloc (unhide HGT) _) hw1.1)
  have HI := hide hw1.2
  have r0 : ∀ i, w1.cell? ⟨w.heap.size, i, none⟩ = ((w.setCell ⟨m, 7, none⟩ (.int .i64 1)).alloc (.cells #[.int .i64 0, .int .i64 0, .int .u64 0, .int .u64 0] 44)).cell? ⟨w.heap.size, i, none⟩ := fun i =>
    gr_cell hw1.1 (by simp only [World.size_alloc, World.size_setCell]; omega) hmne i
  have r1 : ∀ i, w1.frozen? ⟨w.heap.size, i, none⟩ = ((w.setCell ⟨m, 7, none⟩ (.int .i64 1)).alloc (.cells #[.int .i64 0, .int .i64 0, .int .u64 0, .int .u64 0] 44)).frozen? ⟨w.heap.size, i, none⟩ := fun i =>
    gr_frozen hw1.1 (by simp only [World.size_alloc, World.size_setCell]; omega) hmne i
  clear hw1 hg c8 c7 k7
  go_wp2
  refine bodyPost_ret (v := .tuple #[.agg #[.int .i64 a0, .int .i64 a1, .int .u64 a2, .int .u64 a3], .bool b]) (by simp only [results, Try.results39]; go_simp) rfl ?_
  refine ⟨rfl, ?_, ?_⟩
  · (repeat (first | (with_reducible exact unhide hG) | (with_reducible refine gr_drew ?_) | (with_reducible refine gr_alloc ?_ _) | (with_reducible refine gr_set ?_ _) | (with_reducible refine gr_new ?_ (by omega) _))); done
  · (repeat (first | (with_reducible exact unhide HI) | (with_reducible refine IsM.drew ?_) | (with_reducible refine IsM.alloc ?_ _) | (with_reducible refine IsM.set ?_ (by omega) _) | (with_reducible refine IsM.far ?_ (by omega) _))); done
end Go.Proofs.Ytnnllhlcpmmcaaa
