/- Package claim: a frontier whose space is greater than the plan's. -/
import Derived.Test.YtnnllhlcpmmcaaaClD
namespace Go.Proofs.Ytnnllhlcpmmcaaa
set_option linter.unusedVariables false
set_option linter.unusedSimpArgs false
open Go.RowKit

/-- A frontier whose space is greater than the plan's. -/
theorem look_240b (m : Nat) (t sp : Int) (A : Option Addr) (len cap : Nat) (s n mo pl tr wa ge ga gg oe oa og x fs fl fh fo : Int) (w : World) (H : IsM w m (mkC t sp A len cap s n mo pl tr wa ge ga gg oe oa og)) (hx0 : 0 ≤ x) (hx : x ≤ 18446744073709551615) (hb : ofFrontF x = ⟨fs, fl, fh, fo, 0⟩) (hgt : sp < fh) :
    Calls Try.prog 38 #[.pointer (some ⟨m, 0, none⟩), .int .u64 x] w
      fun en w' => en = .returned (.tuple #[.agg #[.int .i64 0, .int .i64 0, .int .u64 0, .int .u64 0], .bool false]) ∧ McTo w w' m (endC (mkC t sp A len cap s n mo pl tr wa ge ga gg oe oa og) 240 0 0) := by
  have CF := hide (fun W (q : Nat) (hW : IsM W m (mkC t sp A len cap s n mo pl tr wa ge ga gg oe oa og)) (hq : q < W.heap.size) (hqm : q ≠ m) hc => fails_any m q (mkC t sp A len cap s n mo pl tr wa ge ga gg oe oa og) 240 W hW hq hqm hc ⟨_, rfl⟩ ⟨_, _, _, rfl, rfl, rfl⟩)
  have CO := hide (fun W => ofFront_any x W hx0 hx)
  rw [hb] at CO
  have HH := hide H
  have hm := H.1
  have h1c : mkC t sp A len cap s n mo pl tr wa ge ga gg oe oa og 1 = .int .i64 sp := rfl
  generalize mkC t sp A len cap s n mo pl tr wa ge ga gg oe oa og = c at *
  clear H hb
  go_enter Try.func38, Try.ntmps38
  go_wp2_with fail
  refine (unhide CO _).mono ?_
  unfold FrontRes.val
  rintro e w1 ⟨rfl, hw1⟩; obtain ⟨hcw1, hfw1⟩ := bcell hw1; (try (simp only [World.size_drew, World.cell?_drew, World.frozen?_drew] at hcw1 hfw1)); have hzw1 := hw1.size; (try (simp only [World.size_alloc, World.size_setCell, World.size_drew] at hzw1)); (try (have hzw1_w_0 : w.heap.size < w1.heap.size := by omega)); (try (have hzw1_w_1 : w.heap.size + 1 < w1.heap.size := by omega)); (try (have hzw1_w_2 : w.heap.size + 1 + 1 < w1.heap.size := by omega)); (try (have hzw1_w_3 : w.heap.size + 1 + 1 + 1 < w1.heap.size := by omega)); (try (have hyw1_w : w.heap.size ≤ w1.heap.size := by omega)); (try (have hyw1_wa : w.heap.size + 1 ≤ w1.heap.size := by omega))
  have hne1 : w.heap.size ≠ m := by omega
  have hne2 : w.heap.size + 1 ≠ m := by omega
  have HL1 : Hid (LkW w1 w.heap.size m) := hide ⟨⟨by go_simp, by go_simp, by go_simp, by go_simp, by go_simp⟩, ⟨by go_simp, by go_simp, by go_simp, by go_simp⟩, by omega⟩
  have HM1 := hide (((unhide HH).alloc _).alloc _ |>.keep hw1)
  have HG1 := hide (gr_then (gr_alloc (gr_alloc (gr_refl w (some m)) _) _) hw1)
  clear hcw1 hfw1 hw1
  go_upto_region 3 with fail
  generalize hW : World.alloc w1 _ = W2
  have HF2 : Hid (Fr W2 w1.heap.size fs fl fh fo) := hide (by rw [← hW]; exact Fr.new ..)
  have hB2 : Below w1.heap.size w1 W2 := by rw [← hW]; exact (Below.refl _ _).alloc (Nat.le_refl _) _
  have HL2 := hide ((unhide HL1).keep hB2)
  have HM2 := hide ((unhide HM1).keep hB2)
  have HG2 := hide (gr_then (unhide HG1) hB2)
  clear HL1 HM1 HG1 hW hB2
  have u0 : ∀ v : Later W2, v.val.cell? ⟨w.heap.size, 0, none⟩ = some (.pointer (some ⟨m, 0, none⟩)) := Later.cell (by have := (unhide HL2).2.2; show w.heap.size < _; omega) (unhide HL2).1.1
  have u1 : ∀ v : Later W2, v.val.cell? ⟨m, 1, none⟩ = some (.int .i64 sp) := Later.cell (unhide HM2).1 (by rw [← h1c]; exact ((unhide HM2).2 1 (by omega)).1)
  have u2 : ∀ v : Later W2, v.val.cell? ⟨w1.heap.size, 2, none⟩ = some (.int .i64 fh) := Later.cell (unhide HF2).2 (unhide HF2).1.2.2.1
  clear h1c
  refine wp_region_later W2 (by kernel_rfl) (by kernel_rfl) (by repeat (first | exact Below.refl _ _ | assumption | refine Below.alloc ?_ (by first | (simp; done) | (simp; omega) | omega) _ | refine Below.setCell ?_ (by first | (simp; done) | (simp; omega) | omega) _ | apply Below.drew | refine Below.trans ?_ (Below.mono (by assumption) (by first | (simp; done) | (simp; omega) | omega)))) ?_; (repeat (first | go_big_quiet_skip | (go_big_quiet_want; (first | ((fail); go_big_quiet_on; simp only [Act.put, List.setIfInBounds_toArray, List.set_cons_zero, List.set_cons_succ]) | (go_big_quiet_op; (first | go_big_quiet_on | go_big_quiet_call ((fail)))))))); refine wpQuiet_nil ?_
  intro w3 hw3
  have HL3 := hide ((unhide HL2).keep hw3)
  have HM3 := hide ((unhide HM2).keep hw3)
  have HG3 := hide (gr_then (unhide HG2) hw3)
  clear HL2 HM2 HG2 HF2 hw3 u0 u1 u2
  obtain ⟨⟨b0, b1, b2, b3, b4⟩, ⟨z1, z2, z3, z4⟩, hs3⟩ := unhide HL3
  have hs3' : w.heap.size < w3.heap.size := by omega
  go_wp2_with fail
  refine (unhide CF _ _ (unhide HM3) hs3' hne1 b0).mono ?_
  rintro en w4 ⟨rfl, hw4⟩
  clear b0 b1 b2 b3 b4 z1 z2 z3 z4
  have HL4 := hide ((unhide HL3).grown hw4.1 hne1 hne2)
  have HM4 := hide hw4.2
  have HG4 := hide (gr_trans (unhide HG3) hw4.1)
  clear HL3 HM3 HG3 hw4
  obtain ⟨⟨b0, b1, b2, b3, b4⟩, ⟨z1, z2, z3, z4⟩, hs4⟩ := unhide HL4
  go_wp2
  refine bodyPost_ret (v := .tuple #[.agg #[.int .i64 0, .int .i64 0, .int .u64 0, .int .u64 0], .bool false]) (by simp only [results, Try.results38]; go_simp) rfl ?_
  refine ⟨rfl, ?_, ?_⟩
  · (repeat (first | (with_reducible exact unhide HG4) | (with_reducible refine gr_drew ?_) | (with_reducible refine gr_alloc ?_ _) | (with_reducible refine gr_set ?_ _) | (with_reducible refine gr_new ?_ (by omega) _))); done
  · (repeat (first | (with_reducible exact unhide HM4) | (with_reducible refine IsM.drew ?_) | (with_reducible refine IsM.alloc ?_ _) | (with_reducible refine IsM.set ?_ (by omega) _) | (with_reducible refine IsM.far ?_ (by omega) _))); done
end Go.Proofs.Ytnnllhlcpmmcaaa
