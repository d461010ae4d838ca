/- Package claim: a machine copied; the chapter's plan; the reference's beginning. -/
import Derived.Test.YtnnllhlcpmmcaaaClF
namespace Go.Proofs.Ytnnllhlcpmmcaaa
set_option linter.unusedVariables false
set_option linter.unusedSimpArgs false
open Go.RowKit

set_option maxHeartbeats 2000000 in
theorem copyM_any (m : Nat) (t sp : Int) (A : Option Addr) (len cap : Nat) (s n mo pl tr wa ge ga gg oe oa og : Int) (w : World) (H : IsM w m (mkC t sp A len cap s n mo pl tr wa ge ga gg oe oa og)) :
    Calls Try.prog 28 #[.pointer (some ⟨m, 0, none⟩)] w
      fun en w' => ∃ q, w.heap.size ≤ q ∧ en = .returned (.pointer (some ⟨q, 0, none⟩)) ∧ IsM w' q (mkC t sp A len cap s n mo pl tr wa ge ga gg oe oa og) ∧ Below w.heap.size w w' := by
  have c0 : w.cell? ⟨m, 0, none⟩ = some (.int .i64 t) := (H.2 0 (by omega)).1
  have c1 : w.cell? ⟨m, 1, none⟩ = some (.int .i64 sp) := (H.2 1 (by omega)).1
  have c2 : w.cell? ⟨m, 2, none⟩ = some (.slice A len cap) := (H.2 2 (by omega)).1
  have c3 : w.cell? ⟨m, 3, none⟩ = some (.int .i64 s) := (H.2 3 (by omega)).1
  have c4 : w.cell? ⟨m, 4, none⟩ = some (.int .i64 n) := (H.2 4 (by omega)).1
  have c5 : w.cell? ⟨m, 5, none⟩ = some (.int .i64 mo) := (H.2 5 (by omega)).1
  have c6 : w.cell? ⟨m, 6, none⟩ = some (.int .i64 pl) := (H.2 6 (by omega)).1
  have c7 : w.cell? ⟨m, 7, none⟩ = some (.int .i64 tr) := (H.2 7 (by omega)).1
  have c8 : w.cell? ⟨m, 8, none⟩ = some (.int .u64 wa) := (H.2 8 (by omega)).1
  have c9 : w.cell? ⟨m, 9, none⟩ = some (.int .i64 ge) := (H.2 9 (by omega)).1
  have c10 : w.cell? ⟨m, 10, none⟩ = some (.int .i64 ga) := (H.2 10 (by omega)).1
  have c11 : w.cell? ⟨m, 11, none⟩ = some (.int .i64 gg) := (H.2 11 (by omega)).1
  have c12 : w.cell? ⟨m, 12, none⟩ = some (.int .i64 oe) := (H.2 12 (by omega)).1
  have c13 : w.cell? ⟨m, 13, none⟩ = some (.int .i64 oa) := (H.2 13 (by omega)).1
  have c14 : w.cell? ⟨m, 14, none⟩ = some (.int .i64 og) := (H.2 14 (by omega)).1
  have hm := H.1
  clear H
  go_enter Try.func28, Try.ntmps28
  go_wp2
  go_ret
  exact ⟨_, Nat.le_refl _, rfl, newM_cells w _ _ _ _ _ _ _ _ _ _ _ _ _ _ _ _ _ _, by repeat (first | exact Below.refl _ _ | assumption | refine Below.alloc ?_ (by first | (simp; done) | (simp; omega) | omega) _ | refine Below.setCell ?_ (by first | (simp; done) | (simp; omega) | omega) _ | apply Below.drew | refine Below.trans ?_ (Below.mono (by assumption) (by first | (simp; done) | (simp; omega) | omega)))⟩

theorem plan14_any (w : World) : Calls Try.prog 34 #[] w
    fun en w' => ∃ g, w.heap.size ≤ g ∧ en = .returned (.agg #[.int .i64 1, .int .i64 32, .slice (some ⟨g, 0, none⟩) 1 1]) ∧ ShOk w' (some ⟨g, 0, none⟩) 1 (fun _ => ⟨#[112]⟩) ∧ Below w.heap.size w w' := by
  go_enter Try.func34, Try.ntmps34
  go_wp2
  refine bodyPost_ret (v := .agg #[.int .i64 1, .int .i64 32, .slice (some ⟨w.heap.size + 1, 0, none⟩) 1 1]) (by simp only [results, Try.results34]; go_simp) rfl ?_
  refine ⟨w.heap.size + 1, by omega, rfl, fun _ => ⟨w.heap.size + 1, 0, rfl, by simp, fun i hi => ?_⟩, by repeat (first | exact Below.refl _ _ | assumption | refine Below.alloc ?_ (by first | (simp; done) | (simp; omega) | omega) _ | refine Below.setCell ?_ (by first | (simp; done) | (simp; omega) | omega) _ | apply Below.drew | refine Below.trans ?_ (Below.mono (by assumption) (by first | (simp; done) | (simp; omega) | omega)))⟩
  obtain rfl : i = 0 := by omega
  go_simp

theorem num14_any (e : Int) (w : World) : Calls Try.prog 13 #[.int .i64 e] w fun en w' => en = .returned (.int .i64 e) ∧ w = w' := by
  go_enter Try.func13, Try.ntmps13
  go_wp2
  go_ret
  exact ⟨rfl, rfl⟩
end Go.Proofs.Ytnnllhlcpmmcaaa
