/- The reference of package claim: what its machine does next. -/
import Derived.Test.YtnnllhlcpmmcaaaClN
namespace Go.Proofs.Ytnnllhlcpmmcaaa
set_option linter.unusedVariables false
set_option linter.unusedSimpArgs false
open Go.RowKit

set_option maxRecDepth 100000 in
set_option maxHeartbeats 8000000 in
theorem refNext_0 (t sp : Int) (A : Option Addr) (len cap : Nat) (s n mo pl tr wa ga gg oe oa og x : Int) (w : World) :
    Calls Try.prog 16 #[.agg #[.int .i64 t, .int .i64 sp, .slice A len cap, .int .i64 s, .int .i64 n, .int .i64 mo, .int .i64 0, .int .i64 tr, .int .u64 wa, .int .i64 ga, .int .i64 gg, .int .i64 oe, .int .i64 oa, .int .i64 og], .int .u64 x] w
      fun en w' => en = .returned (.tuple #[.agg #[.int .i64 t, .int .i64 sp, .slice A len cap, .int .i64 s, .int .i64 n, .int .i64 mo, .int .i64 1, .int .i64 tr, .int .u64 wa, .int .i64 ga, .int .i64 gg, .int .i64 oe, .int .i64 oa, .int .i64 og], .agg #[.int .i64 1, .int .i64 1, .int .u64 0, .int .u64 0], .bool true]) ∧ Below w.heap.size w w' := by
  obtain ⟨W1, hW1⟩ : ∃ W1, ((w.alloc (.cells #[.int .i64 t, .int .i64 sp, .slice A len cap, .int .i64 s, .int .i64 n, .int .i64 mo, .int .i64 0, .int .i64 tr, .int .u64 wa, .int .i64 ga, .int .i64 gg, .int .i64 oe, .int .i64 oa, .int .i64 og] 40)).alloc (.cells #[.int .i64 0, .int .i64 0, .slice none 0 0, .int .i64 0, .int .i64 0, .int .i64 0, .int .i64 0, .int .i64 0, .int .u64 0, .int .i64 0, .int .i64 0, .int .i64 0, .int .i64 0, .int .i64 0] 40)).alloc (.cells #[.int .i64 0, .int .i64 0, .int .u64 0, .int .u64 0] 44) = W1 := ⟨_, rfl⟩
  have hr0 := Rs.new (w.alloc (.cells #[.int .i64 t, .int .i64 sp, .slice A len cap, .int .i64 s, .int .i64 n, .int .i64 mo, .int .i64 0, .int .i64 tr, .int .u64 wa, .int .i64 ga, .int .i64 gg, .int .i64 oe, .int .i64 oa, .int .i64 og] 40)) 40 44
  simp only [World.size_alloc] at hr0
  rw [hW1] at hr0
  have HR1 := hide hr0
  have HB1 : Hid (Bx W1 w.heap.size (rcC t sp A len cap s n mo 0 tr wa ga gg oe oa og)) := hide (by rw [← hW1]; exact ((Bx.new w 40 t sp A len cap s n mo 0 tr wa ga gg oe oa og).keep ((Below.refl _ _).alloc (Nat.le_refl _) _)).keep ((Below.refl _ _).alloc (Nat.le_refl _) _))
  have BL1 : Below w.heap.size w W1 := by rw [← hW1]; repeat (first | exact Below.refl _ _ | assumption | refine Below.alloc ?_ (by first | (simp; done) | (simp; omega) | omega) _ | refine Below.setCell ?_ (by first | (simp; done) | (simp; omega) | omega) _ | apply Below.drew | refine Below.trans ?_ (Below.mono (by assumption) (by first | (simp; done) | (simp; omega) | omega)))
  have hq1 : w.heap.size < W1.heap.size := (unhide HB1).1
  have hq2 : w.heap.size + 1 < W1.heap.size := by have := (unhide HR1).1; omega
  clear hr0
  have HW1 := hide hW1
  clear hW1
  have bx0 : W1.cell? ⟨w.heap.size, 0, none⟩ = some (.int .i64 t) := ((unhide HB1).2 0 (by omega)).1
  have bx1 : W1.cell? ⟨w.heap.size, 1, none⟩ = some (.int .i64 sp) := ((unhide HB1).2 1 (by omega)).1
  have bx2 : W1.cell? ⟨w.heap.size, 2, none⟩ = some (.slice A len cap) := ((unhide HB1).2 2 (by omega)).1
  have bx3 : W1.cell? ⟨w.heap.size, 3, none⟩ = some (.int .i64 s) := ((unhide HB1).2 3 (by omega)).1
  have bx4 : W1.cell? ⟨w.heap.size, 4, none⟩ = some (.int .i64 n) := ((unhide HB1).2 4 (by omega)).1
  have bx5 : W1.cell? ⟨w.heap.size, 5, none⟩ = some (.int .i64 mo) := ((unhide HB1).2 5 (by omega)).1
  have bx6 : W1.cell? ⟨w.heap.size, 6, none⟩ = some (.int .i64 0) := ((unhide HB1).2 6 (by omega)).1
  have bx7 : W1.cell? ⟨w.heap.size, 7, none⟩ = some (.int .i64 tr) := ((unhide HB1).2 7 (by omega)).1
  have bx8 : W1.cell? ⟨w.heap.size, 8, none⟩ = some (.int .u64 wa) := ((unhide HB1).2 8 (by omega)).1
  have bx9 : W1.cell? ⟨w.heap.size, 9, none⟩ = some (.int .i64 ga) := ((unhide HB1).2 9 (by omega)).1
  have bx10 : W1.cell? ⟨w.heap.size, 10, none⟩ = some (.int .i64 gg) := ((unhide HB1).2 10 (by omega)).1
  have bx11 : W1.cell? ⟨w.heap.size, 11, none⟩ = some (.int .i64 oe) := ((unhide HB1).2 11 (by omega)).1
  have bx12 : W1.cell? ⟨w.heap.size, 12, none⟩ = some (.int .i64 oa) := ((unhide HB1).2 12 (by omega)).1
  have bx13 : W1.cell? ⟨w.heap.size, 13, none⟩ = some (.int .i64 og) := ((unhide HB1).2 13 (by omega)).1
  go_enter Try.func16, Try.ntmps16
  go_upto_region 1 with fail
  rw [unhide HW1]
  have q6 := ((unhide HB1).2 6 (by omega)).2
  go_upto_region 4 with fail
  have HB1n : Hid (Bx (W1.setCell ⟨w.heap.size, 6, none⟩ (.int .i64 1)) w.heap.size (rcC t sp A len cap s n mo 1 tr wa ga gg oe oa og)) := hide (((unhide HB1).set (i := 6) (by omega) (.int .i64 1)).congr (fun i hi => by
    have h : i = 0 ∨ i = 1 ∨ i = 2 ∨ i = 3 ∨ i = 4 ∨ i = 5 ∨ i = 6 ∨ i = 7 ∨ i = 8 ∨ i = 9 ∨ i = 10 ∨ i = 11 ∨ i = 12 ∨ i = 13 := by omega
    rcases h with rfl | rfl | rfl | rfl | rfl | rfl | rfl | rfl | rfl | rfl | rfl | rfl | rfl | rfl <;> rfl))
  have HR1n : Hid (Rs (W1.setCell ⟨w.heap.size, 6, none⟩ (.int .i64 1)) (w.heap.size + 1)) := hide ((unhide HR1).set (by omega) (by omega) _)
  have BL1n : Below w.heap.size w (W1.setCell ⟨w.heap.size, 6, none⟩ (.int .i64 1)) := BL1.setCell (Nat.le_refl _) _
  have hzn : W1.heap.size = (W1.setCell ⟨w.heap.size, 6, none⟩ (.int .i64 1)).heap.size := by simp
  rw [hzn] at hq1 hq2
  generalize (W1.setCell ⟨w.heap.size, 6, none⟩ (.int .i64 1)) = W2 at *
  clear bx0 bx1 bx2 bx3 bx4 bx5 bx6 bx7 bx8 bx9 bx10 bx11 bx12 bx13
  clear BL1 hzn
  have bx0 : W2.cell? ⟨w.heap.size, 0, none⟩ = some (.int .i64 t) := ((unhide HB1n).2 0 (by omega)).1
  have bx1 : W2.cell? ⟨w.heap.size, 1, none⟩ = some (.int .i64 sp) := ((unhide HB1n).2 1 (by omega)).1
  have bx2 : W2.cell? ⟨w.heap.size, 2, none⟩ = some (.slice A len cap) := ((unhide HB1n).2 2 (by omega)).1
  have bx3 : W2.cell? ⟨w.heap.size, 3, none⟩ = some (.int .i64 s) := ((unhide HB1n).2 3 (by omega)).1
  have bx4 : W2.cell? ⟨w.heap.size, 4, none⟩ = some (.int .i64 n) := ((unhide HB1n).2 4 (by omega)).1
  have bx5 : W2.cell? ⟨w.heap.size, 5, none⟩ = some (.int .i64 mo) := ((unhide HB1n).2 5 (by omega)).1
  have bx6 : W2.cell? ⟨w.heap.size, 6, none⟩ = some (.int .i64 1) := ((unhide HB1n).2 6 (by omega)).1
  have bx7 : W2.cell? ⟨w.heap.size, 7, none⟩ = some (.int .i64 tr) := ((unhide HB1n).2 7 (by omega)).1
  have bx8 : W2.cell? ⟨w.heap.size, 8, none⟩ = some (.int .u64 wa) := ((unhide HB1n).2 8 (by omega)).1
  have bx9 : W2.cell? ⟨w.heap.size, 9, none⟩ = some (.int .i64 ga) := ((unhide HB1n).2 9 (by omega)).1
  have bx10 : W2.cell? ⟨w.heap.size, 10, none⟩ = some (.int .i64 gg) := ((unhide HB1n).2 10 (by omega)).1
  have bx11 : W2.cell? ⟨w.heap.size, 11, none⟩ = some (.int .i64 oe) := ((unhide HB1n).2 11 (by omega)).1
  have bx12 : W2.cell? ⟨w.heap.size, 12, none⟩ = some (.int .i64 oa) := ((unhide HB1n).2 12 (by omega)).1
  have bx13 : W2.cell? ⟨w.heap.size, 13, none⟩ = some (.int .i64 og) := ((unhide HB1n).2 13 (by omega)).1
  clear q6
  (obtain ⟨hrs, ⟨rc0, rc1, rc2, rc3, rc4, rc5, rc6, rc7, rc8, rc9, rc10, rc11, rc12, rc13⟩, ⟨rd0, rd1, rd2, rd3⟩, ⟨rf0, rf1, rf2, rf3, rf4, rf5, rf6, rf7, rf8, rf9, rf10, rf11, rf12, rf13⟩, ⟨rg0, rg1, rg2, rg3⟩⟩ := unhide HR1n)
  go_region_with ((go_at_call 40; refine (arLoad_any 1 _).mono ?_; rintro e w10 ⟨rfl, hw10⟩; obtain ⟨hcw10, hfw10⟩ := bcell hw10; (try (simp only [World.size_drew, World.cell?_drew, World.frozen?_drew] at hcw10 hfw10)); have hzw10 := hw10.size; (try (simp only [World.size_alloc, World.size_setCell, World.size_drew] at hzw10)); (try (have hzw10_w_0 : w.heap.size < w10.heap.size := by omega)); (try (have hzw10_w_1 : w.heap.size + 1 < w10.heap.size := by omega)); (try (have hzw10_w_2 : w.heap.size + 1 + 1 < w10.heap.size := by omega)); (try (have hzw10_w_3 : w.heap.size + 1 + 1 + 1 < w10.heap.size := by omega)); (try (have hyw10_w : w.heap.size ≤ w10.heap.size := by omega)); (try (have hyw10_wa : w.heap.size + 1 ≤ w10.heap.size := by omega)); (try (have hzw10_W2_0 : W2.heap.size < w10.heap.size := by omega)); (try (have hzw10_W2_1 : W2.heap.size + 1 < w10.heap.size := by omega)); (try (have hzw10_W2_2 : W2.heap.size + 1 + 1 < w10.heap.size := by omega)); (try (have hzw10_W2_3 : W2.heap.size + 1 + 1 + 1 < w10.heap.size := by omega)); (try (have hyw10_W2 : W2.heap.size ≤ w10.heap.size := by omega)); (try (have hyw10_W2a : W2.heap.size + 1 ≤ w10.heap.size := by omega)); (have BL10 : Below w.heap.size w w10 := (by refine Below.trans ?_ (Below.mono hw10 (by simp; try omega)); repeat (first | (with_reducible exact Below.refl _ _) | (with_reducible assumption) | (with_reducible refine Below.setCell ?_ (by first | (simp; done) | (simp; omega) | omega) _) | (with_reducible refine Below.alloc ?_ (by first | (simp; done) | (simp; omega) | omega) _) | (with_reducible refine Below.drew ?_))))))
  all_goals go_wp2
  all_goals (refine bodyPost_ret (v := .tuple #[.agg #[.int .i64 t, .int .i64 sp, .slice A len cap, .int .i64 s, .int .i64 n, .int .i64 mo, .int .i64 1, .int .i64 tr, .int .u64 wa, .int .i64 ga, .int .i64 gg, .int .i64 oe, .int .i64 oa, .int .i64 og], .agg #[.int .i64 1, .int .i64 1, .int .u64 0, .int .u64 0], .bool true]) (by simp only [results, Try.results16]; go_simp) rfl ?_)
  all_goals exact ⟨rfl, by repeat (first | (with_reducible exact Below.refl _ _) | (with_reducible assumption) | (with_reducible refine Below.setCell ?_ (by first | (simp; done) | (simp; omega) | omega) _) | (with_reducible refine Below.alloc ?_ (by first | (simp; done) | (simp; omega) | omega) _) | (with_reducible refine Below.drew ?_))⟩


set_option maxRecDepth 100000 in
set_option maxHeartbeats 8000000 in
theorem refNext_1 (t sp : Int) (A : Option Addr) (len cap : Nat) (s n mo pl tr wa ga gg oe oa og x p2 tr2 wa2 ga2 gg2 oe2 oa2 og2 k2 a2 o2 v2 : Int) (w : World) (b2 : Bool) (C : ∀ W, Below w.heap.size w W → Calls Try.prog 41 #[.agg #[.int .i64 t, .int .i64 sp, .slice A len cap, .int .i64 s, .int .i64 n, .int .i64 mo, .int .i64 1, .int .i64 tr, .int .u64 wa, .int .i64 ga, .int .i64 gg, .int .i64 oe, .int .i64 oa, .int .i64 og], .int .u64 x] W fun en w' => en = .returned (.tuple #[.agg #[.int .i64 t, .int .i64 sp, .slice A len cap, .int .i64 s, .int .i64 n, .int .i64 mo, .int .i64 p2, .int .i64 tr2, .int .u64 wa2, .int .i64 ga2, .int .i64 gg2, .int .i64 oe2, .int .i64 oa2, .int .i64 og2], .agg #[.int .i64 k2, .int .i64 a2, .int .u64 o2, .int .u64 v2], .bool b2]) ∧ Below W.heap.size W w') :
    Calls Try.prog 16 #[.agg #[.int .i64 t, .int .i64 sp, .slice A len cap, .int .i64 s, .int .i64 n, .int .i64 mo, .int .i64 1, .int .i64 tr, .int .u64 wa, .int .i64 ga, .int .i64 gg, .int .i64 oe, .int .i64 oa, .int .i64 og], .int .u64 x] w
      fun en w' => en = .returned (.tuple #[.agg #[.int .i64 t, .int .i64 sp, .slice A len cap, .int .i64 s, .int .i64 n, .int .i64 mo, .int .i64 p2, .int .i64 tr2, .int .u64 wa2, .int .i64 ga2, .int .i64 gg2, .int .i64 oe2, .int .i64 oa2, .int .i64 og2], .agg #[.int .i64 k2, .int .i64 a2, .int .u64 o2, .int .u64 v2], .bool b2]) ∧ Below w.heap.size w w' := by
  have CC := hide C
  clear C
  obtain ⟨W1, hW1⟩ : ∃ W1, ((w.alloc (.cells #[.int .i64 t, .int .i64 sp, .slice A len cap, .int .i64 s, .int .i64 n, .int .i64 mo, .int .i64 1, .int .i64 tr, .int .u64 wa, .int .i64 ga, .int .i64 gg, .int .i64 oe, .int .i64 oa, .int .i64 og] 40)).alloc (.cells #[.int .i64 0, .int .i64 0, .slice none 0 0, .int .i64 0, .int .i64 0, .int .i64 0, .int .i64 0, .int .i64 0, .int .u64 0, .int .i64 0, .int .i64 0, .int .i64 0, .int .i64 0, .int .i64 0] 40)).alloc (.cells #[.int .i64 0, .int .i64 0, .int .u64 0, .int .u64 0] 44) = W1 := ⟨_, rfl⟩
  have hr0 := Rs.new (w.alloc (.cells #[.int .i64 t, .int .i64 sp, .slice A len cap, .int .i64 s, .int .i64 n, .int .i64 mo, .int .i64 1, .int .i64 tr, .int .u64 wa, .int .i64 ga, .int .i64 gg, .int .i64 oe, .int .i64 oa, .int .i64 og] 40)) 40 44
  simp only [World.size_alloc] at hr0
  rw [hW1] at hr0
  have HR1 := hide hr0
  have HB1 : Hid (Bx W1 w.heap.size (rcC t sp A len cap s n mo 1 tr wa ga gg oe oa og)) := hide (by rw [← hW1]; exact ((Bx.new w 40 t sp A len cap s n mo 1 tr wa ga gg oe oa og).keep ((Below.refl _ _).alloc (Nat.le_refl _) _)).keep ((Below.refl _ _).alloc (Nat.le_refl _) _))
  have BL1 : Below w.heap.size w W1 := by rw [← hW1]; repeat (first | exact Below.refl _ _ | assumption | refine Below.alloc ?_ (by first | (simp; done) | (simp; omega) | omega) _ | refine Below.setCell ?_ (by first | (simp; done) | (simp; omega) | omega) _ | apply Below.drew | refine Below.trans ?_ (Below.mono (by assumption) (by first | (simp; done) | (simp; omega) | omega)))
  have hq1 : w.heap.size < W1.heap.size := (unhide HB1).1
  have hq2 : w.heap.size + 1 < W1.heap.size := by have := (unhide HR1).1; omega
  clear hr0
  have HW1 := hide hW1
  clear hW1
  have bx0 : W1.cell? ⟨w.heap.size, 0, none⟩ = some (.int .i64 t) := ((unhide HB1).2 0 (by omega)).1
  have bx1 : W1.cell? ⟨w.heap.size, 1, none⟩ = some (.int .i64 sp) := ((unhide HB1).2 1 (by omega)).1
  have bx2 : W1.cell? ⟨w.heap.size, 2, none⟩ = some (.slice A len cap) := ((unhide HB1).2 2 (by omega)).1
  have bx3 : W1.cell? ⟨w.heap.size, 3, none⟩ = some (.int .i64 s) := ((unhide HB1).2 3 (by omega)).1
  have bx4 : W1.cell? ⟨w.heap.size, 4, none⟩ = some (.int .i64 n) := ((unhide HB1).2 4 (by omega)).1
  have bx5 : W1.cell? ⟨w.heap.size, 5, none⟩ = some (.int .i64 mo) := ((unhide HB1).2 5 (by omega)).1
  have bx6 : W1.cell? ⟨w.heap.size, 6, none⟩ = some (.int .i64 1) := ((unhide HB1).2 6 (by omega)).1
  have bx7 : W1.cell? ⟨w.heap.size, 7, none⟩ = some (.int .i64 tr) := ((unhide HB1).2 7 (by omega)).1
  have bx8 : W1.cell? ⟨w.heap.size, 8, none⟩ = some (.int .u64 wa) := ((unhide HB1).2 8 (by omega)).1
  have bx9 : W1.cell? ⟨w.heap.size, 9, none⟩ = some (.int .i64 ga) := ((unhide HB1).2 9 (by omega)).1
  have bx10 : W1.cell? ⟨w.heap.size, 10, none⟩ = some (.int .i64 gg) := ((unhide HB1).2 10 (by omega)).1
  have bx11 : W1.cell? ⟨w.heap.size, 11, none⟩ = some (.int .i64 oe) := ((unhide HB1).2 11 (by omega)).1
  have bx12 : W1.cell? ⟨w.heap.size, 12, none⟩ = some (.int .i64 oa) := ((unhide HB1).2 12 (by omega)).1
  have bx13 : W1.cell? ⟨w.heap.size, 13, none⟩ = some (.int .i64 og) := ((unhide HB1).2 13 (by omega)).1
  go_enter Try.func16, Try.ntmps16
  go_upto_region 1 with fail
  rw [unhide HW1]
  go_wp2_with fail
  refine (unhide CC _ BL1).mono ?_
  rintro en w3 ⟨rfl, hw3⟩
  have BL3 := BL1.trans (hw3.mono (by omega))
  have HR3 := hide ((unhide HR1).keep hw3)
  clear bx0 bx1 bx2 bx3 bx4 bx5 bx6 bx7 bx8 bx9 bx10 bx11 bx12 bx13
  clear hw3 BL1
  (obtain ⟨hrs, ⟨rc0, rc1, rc2, rc3, rc4, rc5, rc6, rc7, rc8, rc9, rc10, rc11, rc12, rc13⟩, ⟨rd0, rd1, rd2, rd3⟩, ⟨rf0, rf1, rf2, rf3, rf4, rf5, rf6, rf7, rf8, rf9, rf10, rf11, rf12, rf13⟩, ⟨rg0, rg1, rg2, rg3⟩⟩ := unhide HR3)
  go_wp2
  (refine bodyPost_ret (v := .tuple #[.agg #[.int .i64 t, .int .i64 sp, .slice A len cap, .int .i64 s, .int .i64 n, .int .i64 mo, .int .i64 p2, .int .i64 tr2, .int .u64 wa2, .int .i64 ga2, .int .i64 gg2, .int .i64 oe2, .int .i64 oa2, .int .i64 og2], .agg #[.int .i64 k2, .int .i64 a2, .int .u64 o2, .int .u64 v2], .bool b2]) (by simp only [results, Try.results16]; go_simp) rfl ?_)
  exact ⟨rfl, by repeat (first | (with_reducible exact Below.refl _ _) | (with_reducible assumption) | (with_reducible refine Below.setCell ?_ (by first | (simp; done) | (simp; omega) | omega) _) | (with_reducible refine Below.alloc ?_ (by first | (simp; done) | (simp; omega) | omega) _) | (with_reducible refine Below.drew ?_))⟩


set_option maxRecDepth 100000 in
set_option maxHeartbeats 8000000 in
theorem refNext_won (t sp : Int) (A : Option Addr) (len cap : Nat) (s n mo pl tr wa ga gg oe oa og x : Int) (w : World) (hxw : x = wa) :
    Calls Try.prog 16 #[.agg #[.int .i64 t, .int .i64 sp, .slice A len cap, .int .i64 s, .int .i64 n, .int .i64 mo, .int .i64 2, .int .i64 tr, .int .u64 wa, .int .i64 ga, .int .i64 gg, .int .i64 oe, .int .i64 oa, .int .i64 og], .int .u64 x] w
      fun en w' => en = .returned (.tuple #[.agg #[.int .i64 t, .int .i64 sp, .slice A len cap, .int .i64 s, .int .i64 n, .int .i64 mo, .int .i64 3, .int .i64 tr, .int .u64 wa, .int .i64 ga, .int .i64 gg, .int .i64 0, .int .i64 ga, .int .i64 gg], .agg #[.int .i64 0, .int .i64 0, .int .u64 0, .int .u64 0], .bool false]) ∧ Below w.heap.size w w' := by
  obtain rfl : wa = x := hxw.symm
  obtain ⟨W1, hW1⟩ : ∃ W1, ((w.alloc (.cells #[.int .i64 t, .int .i64 sp, .slice A len cap, .int .i64 s, .int .i64 n, .int .i64 mo, .int .i64 2, .int .i64 tr, .int .u64 wa, .int .i64 ga, .int .i64 gg, .int .i64 oe, .int .i64 oa, .int .i64 og] 40)).alloc (.cells #[.int .i64 0, .int .i64 0, .slice none 0 0, .int .i64 0, .int .i64 0, .int .i64 0, .int .i64 0, .int .i64 0, .int .u64 0, .int .i64 0, .int .i64 0, .int .i64 0, .int .i64 0, .int .i64 0] 40)).alloc (.cells #[.int .i64 0, .int .i64 0, .int .u64 0, .int .u64 0] 44) = W1 := ⟨_, rfl⟩
  have hr0 := Rs.new (w.alloc (.cells #[.int .i64 t, .int .i64 sp, .slice A len cap, .int .i64 s, .int .i64 n, .int .i64 mo, .int .i64 2, .int .i64 tr, .int .u64 wa, .int .i64 ga, .int .i64 gg, .int .i64 oe, .int .i64 oa, .int .i64 og] 40)) 40 44
  simp only [World.size_alloc] at hr0
  rw [hW1] at hr0
  have HR1 := hide hr0
  have HB1 : Hid (Bx W1 w.heap.size (rcC t sp A len cap s n mo 2 tr wa ga gg oe oa og)) := hide (by rw [← hW1]; exact ((Bx.new w 40 t sp A len cap s n mo 2 tr wa ga gg oe oa og).keep ((Below.refl _ _).alloc (Nat.le_refl _) _)).keep ((Below.refl _ _).alloc (Nat.le_refl _) _))
  have BL1 : Below w.heap.size w W1 := by rw [← hW1]; repeat (first | exact Below.refl _ _ | assumption | refine Below.alloc ?_ (by first | (simp; done) | (simp; omega) | omega) _ | refine Below.setCell ?_ (by first | (simp; done) | (simp; omega) | omega) _ | apply Below.drew | refine Below.trans ?_ (Below.mono (by assumption) (by first | (simp; done) | (simp; omega) | omega)))
  have hq1 : w.heap.size < W1.heap.size := (unhide HB1).1
  have hq2 : w.heap.size + 1 < W1.heap.size := by have := (unhide HR1).1; omega
  clear hr0
  have HW1 := hide hW1
  clear hW1
  have bx0 : W1.cell? ⟨w.heap.size, 0, none⟩ = some (.int .i64 t) := ((unhide HB1).2 0 (by omega)).1
  have bx1 : W1.cell? ⟨w.heap.size, 1, none⟩ = some (.int .i64 sp) := ((unhide HB1).2 1 (by omega)).1
  have bx2 : W1.cell? ⟨w.heap.size, 2, none⟩ = some (.slice A len cap) := ((unhide HB1).2 2 (by omega)).1
  have bx3 : W1.cell? ⟨w.heap.size, 3, none⟩ = some (.int .i64 s) := ((unhide HB1).2 3 (by omega)).1
  have bx4 : W1.cell? ⟨w.heap.size, 4, none⟩ = some (.int .i64 n) := ((unhide HB1).2 4 (by omega)).1
  have bx5 : W1.cell? ⟨w.heap.size, 5, none⟩ = some (.int .i64 mo) := ((unhide HB1).2 5 (by omega)).1
  have bx6 : W1.cell? ⟨w.heap.size, 6, none⟩ = some (.int .i64 2) := ((unhide HB1).2 6 (by omega)).1
  have bx7 : W1.cell? ⟨w.heap.size, 7, none⟩ = some (.int .i64 tr) := ((unhide HB1).2 7 (by omega)).1
  have bx8 : W1.cell? ⟨w.heap.size, 8, none⟩ = some (.int .u64 wa) := ((unhide HB1).2 8 (by omega)).1
  have bx9 : W1.cell? ⟨w.heap.size, 9, none⟩ = some (.int .i64 ga) := ((unhide HB1).2 9 (by omega)).1
  have bx10 : W1.cell? ⟨w.heap.size, 10, none⟩ = some (.int .i64 gg) := ((unhide HB1).2 10 (by omega)).1
  have bx11 : W1.cell? ⟨w.heap.size, 11, none⟩ = some (.int .i64 oe) := ((unhide HB1).2 11 (by omega)).1
  have bx12 : W1.cell? ⟨w.heap.size, 12, none⟩ = some (.int .i64 oa) := ((unhide HB1).2 12 (by omega)).1
  have bx13 : W1.cell? ⟨w.heap.size, 13, none⟩ = some (.int .i64 og) := ((unhide HB1).2 13 (by omega)).1
  go_enter Try.func16, Try.ntmps16
  go_upto_region 1 with fail
  rw [unhide HW1]
  go_wp2_with fail
  refine (refEnd_any t sp A len cap s n mo 2 tr wa ga gg oe oa og 0 ga gg _).mono ?_
  rintro en w3 ⟨rfl, hw3⟩
  have BL3 := BL1.trans (hw3.mono (by omega))
  have HR3 := hide ((unhide HR1).keep hw3)
  clear bx0 bx1 bx2 bx3 bx4 bx5 bx6 bx7 bx8 bx9 bx10 bx11 bx12 bx13
  clear hw3 BL1
  (obtain ⟨hrs, ⟨rc0, rc1, rc2, rc3, rc4, rc5, rc6, rc7, rc8, rc9, rc10, rc11, rc12, rc13⟩, ⟨rd0, rd1, rd2, rd3⟩, ⟨rf0, rf1, rf2, rf3, rf4, rf5, rf6, rf7, rf8, rf9, rf10, rf11, rf12, rf13⟩, ⟨rg0, rg1, rg2, rg3⟩⟩ := unhide HR3)
  go_wp2
  (refine bodyPost_ret (v := .tuple #[.agg #[.int .i64 t, .int .i64 sp, .slice A len cap, .int .i64 s, .int .i64 n, .int .i64 mo, .int .i64 3, .int .i64 tr, .int .u64 wa, .int .i64 ga, .int .i64 gg, .int .i64 0, .int .i64 ga, .int .i64 gg], .agg #[.int .i64 0, .int .i64 0, .int .u64 0, .int .u64 0], .bool false]) (by simp only [results, Try.results16]; go_simp) rfl ?_)
  exact ⟨rfl, by repeat (first | (with_reducible exact Below.refl _ _) | (with_reducible assumption) | (with_reducible refine Below.setCell ?_ (by first | (simp; done) | (simp; omega) | omega) _) | (with_reducible refine Below.alloc ?_ (by first | (simp; done) | (simp; omega) | omega) _) | (with_reducible refine Below.drew ?_))⟩


set_option maxRecDepth 100000 in
set_option maxHeartbeats 8000000 in
theorem refNext_busy (t sp : Int) (A : Option Addr) (len cap : Nat) (s n mo pl tr wa ga gg oe oa og x : Int) (w : World) (hxw : x ≠ wa) :
    Calls Try.prog 16 #[.agg #[.int .i64 t, .int .i64 sp, .slice A len cap, .int .i64 s, .int .i64 n, .int .i64 mo, .int .i64 2, .int .i64 1, .int .u64 wa, .int .i64 ga, .int .i64 gg, .int .i64 oe, .int .i64 oa, .int .i64 og], .int .u64 x] w
      fun en w' => en = .returned (.tuple #[.agg #[.int .i64 t, .int .i64 sp, .slice A len cap, .int .i64 s, .int .i64 n, .int .i64 mo, .int .i64 3, .int .i64 2, .int .u64 wa, .int .i64 ga, .int .i64 gg, .int .i64 185, .int .i64 0, .int .i64 0], .agg #[.int .i64 0, .int .i64 0, .int .u64 0, .int .u64 0], .bool false]) ∧ Below w.heap.size w w' := by
  have hx' : (x == wa) = false := by simpa using hxw
  clear hxw
  obtain ⟨W1, hW1⟩ : ∃ W1, ((w.alloc (.cells #[.int .i64 t, .int .i64 sp, .slice A len cap, .int .i64 s, .int .i64 n, .int .i64 mo, .int .i64 2, .int .i64 1, .int .u64 wa, .int .i64 ga, .int .i64 gg, .int .i64 oe, .int .i64 oa, .int .i64 og] 40)).alloc (.cells #[.int .i64 0, .int .i64 0, .slice none 0 0, .int .i64 0, .int .i64 0, .int .i64 0, .int .i64 0, .int .i64 0, .int .u64 0, .int .i64 0, .int .i64 0, .int .i64 0, .int .i64 0, .int .i64 0] 40)).alloc (.cells #[.int .i64 0, .int .i64 0, .int .u64 0, .int .u64 0] 44) = W1 := ⟨_, rfl⟩
  have hr0 := Rs.new (w.alloc (.cells #[.int .i64 t, .int .i64 sp, .slice A len cap, .int .i64 s, .int .i64 n, .int .i64 mo, .int .i64 2, .int .i64 1, .int .u64 wa, .int .i64 ga, .int .i64 gg, .int .i64 oe, .int .i64 oa, .int .i64 og] 40)) 40 44
  simp only [World.size_alloc] at hr0
  rw [hW1] at hr0
  have HR1 := hide hr0
  have HB1 : Hid (Bx W1 w.heap.size (rcC t sp A len cap s n mo 2 1 wa ga gg oe oa og)) := hide (by rw [← hW1]; exact ((Bx.new w 40 t sp A len cap s n mo 2 1 wa ga gg oe oa og).keep ((Below.refl _ _).alloc (Nat.le_refl _) _)).keep ((Below.refl _ _).alloc (Nat.le_refl _) _))
  have BL1 : Below w.heap.size w W1 := by rw [← hW1]; repeat (first | exact Below.refl _ _ | assumption | refine Below.alloc ?_ (by first | (simp; done) | (simp; omega) | omega) _ | refine Below.setCell ?_ (by first | (simp; done) | (simp; omega) | omega) _ | apply Below.drew | refine Below.trans ?_ (Below.mono (by assumption) (by first | (simp; done) | (simp; omega) | omega)))
  have hq1 : w.heap.size < W1.heap.size := (unhide HB1).1
  have hq2 : w.heap.size + 1 < W1.heap.size := by have := (unhide HR1).1; omega
  clear hr0
  have HW1 := hide hW1
  clear hW1
  have bx0 : W1.cell? ⟨w.heap.size, 0, none⟩ = some (.int .i64 t) := ((unhide HB1).2 0 (by omega)).1
  have bx1 : W1.cell? ⟨w.heap.size, 1, none⟩ = some (.int .i64 sp) := ((unhide HB1).2 1 (by omega)).1
  have bx2 : W1.cell? ⟨w.heap.size, 2, none⟩ = some (.slice A len cap) := ((unhide HB1).2 2 (by omega)).1
  have bx3 : W1.cell? ⟨w.heap.size, 3, none⟩ = some (.int .i64 s) := ((unhide HB1).2 3 (by omega)).1
  have bx4 : W1.cell? ⟨w.heap.size, 4, none⟩ = some (.int .i64 n) := ((unhide HB1).2 4 (by omega)).1
  have bx5 : W1.cell? ⟨w.heap.size, 5, none⟩ = some (.int .i64 mo) := ((unhide HB1).2 5 (by omega)).1
  have bx6 : W1.cell? ⟨w.heap.size, 6, none⟩ = some (.int .i64 2) := ((unhide HB1).2 6 (by omega)).1
  have bx7 : W1.cell? ⟨w.heap.size, 7, none⟩ = some (.int .i64 1) := ((unhide HB1).2 7 (by omega)).1
  have bx8 : W1.cell? ⟨w.heap.size, 8, none⟩ = some (.int .u64 wa) := ((unhide HB1).2 8 (by omega)).1
  have bx9 : W1.cell? ⟨w.heap.size, 9, none⟩ = some (.int .i64 ga) := ((unhide HB1).2 9 (by omega)).1
  have bx10 : W1.cell? ⟨w.heap.size, 10, none⟩ = some (.int .i64 gg) := ((unhide HB1).2 10 (by omega)).1
  have bx11 : W1.cell? ⟨w.heap.size, 11, none⟩ = some (.int .i64 oe) := ((unhide HB1).2 11 (by omega)).1
  have bx12 : W1.cell? ⟨w.heap.size, 12, none⟩ = some (.int .i64 oa) := ((unhide HB1).2 12 (by omega)).1
  have bx13 : W1.cell? ⟨w.heap.size, 13, none⟩ = some (.int .i64 og) := ((unhide HB1).2 13 (by omega)).1
  go_enter Try.func16, Try.ntmps16
  go_upto_region 1 with fail
  rw [unhide HW1]
  have q7 := ((unhide HB1).2 7 (by omega)).2
  go_upto_region 11 with fail
  have HB1n : Hid (Bx (W1.setCell ⟨w.heap.size, 7, none⟩ (.int .i64 2)) w.heap.size (rcC t sp A len cap s n mo 2 2 wa ga gg oe oa og)) := hide (((unhide HB1).set (i := 7) (by omega) (.int .i64 2)).congr (fun i hi => by
    have h : i = 0 ∨ i = 1 ∨ i = 2 ∨ i = 3 ∨ i = 4 ∨ i = 5 ∨ i = 6 ∨ i = 7 ∨ i = 8 ∨ i = 9 ∨ i = 10 ∨ i = 11 ∨ i = 12 ∨ i = 13 := by omega
    rcases h with rfl | rfl | rfl | rfl | rfl | rfl | rfl | rfl | rfl | rfl | rfl | rfl | rfl | rfl <;> rfl))
  have HR1n : Hid (Rs (W1.setCell ⟨w.heap.size, 7, none⟩ (.int .i64 2)) (w.heap.size + 1)) := hide ((unhide HR1).set (by omega) (by omega) _)
  have BL1n : Below w.heap.size w (W1.setCell ⟨w.heap.size, 7, none⟩ (.int .i64 2)) := BL1.setCell (Nat.le_refl _) _
  have hzn : W1.heap.size = (W1.setCell ⟨w.heap.size, 7, none⟩ (.int .i64 2)).heap.size := by simp
  rw [hzn] at hq1 hq2
  generalize (W1.setCell ⟨w.heap.size, 7, none⟩ (.int .i64 2)) = W2 at *
  clear bx0 bx1 bx2 bx3 bx4 bx5 bx6 bx7 bx8 bx9 bx10 bx11 bx12 bx13
  clear BL1 hzn
  have bx0 : W2.cell? ⟨w.heap.size, 0, none⟩ = some (.int .i64 t) := ((unhide HB1n).2 0 (by omega)).1
  have bx1 : W2.cell? ⟨w.heap.size, 1, none⟩ = some (.int .i64 sp) := ((unhide HB1n).2 1 (by omega)).1
  have bx2 : W2.cell? ⟨w.heap.size, 2, none⟩ = some (.slice A len cap) := ((unhide HB1n).2 2 (by omega)).1
  have bx3 : W2.cell? ⟨w.heap.size, 3, none⟩ = some (.int .i64 s) := ((unhide HB1n).2 3 (by omega)).1
  have bx4 : W2.cell? ⟨w.heap.size, 4, none⟩ = some (.int .i64 n) := ((unhide HB1n).2 4 (by omega)).1
  have bx5 : W2.cell? ⟨w.heap.size, 5, none⟩ = some (.int .i64 mo) := ((unhide HB1n).2 5 (by omega)).1
  have bx6 : W2.cell? ⟨w.heap.size, 6, none⟩ = some (.int .i64 2) := ((unhide HB1n).2 6 (by omega)).1
  have bx7 : W2.cell? ⟨w.heap.size, 7, none⟩ = some (.int .i64 2) := ((unhide HB1n).2 7 (by omega)).1
  have bx8 : W2.cell? ⟨w.heap.size, 8, none⟩ = some (.int .u64 wa) := ((unhide HB1n).2 8 (by omega)).1
  have bx9 : W2.cell? ⟨w.heap.size, 9, none⟩ = some (.int .i64 ga) := ((unhide HB1n).2 9 (by omega)).1
  have bx10 : W2.cell? ⟨w.heap.size, 10, none⟩ = some (.int .i64 gg) := ((unhide HB1n).2 10 (by omega)).1
  have bx11 : W2.cell? ⟨w.heap.size, 11, none⟩ = some (.int .i64 oe) := ((unhide HB1n).2 11 (by omega)).1
  have bx12 : W2.cell? ⟨w.heap.size, 12, none⟩ = some (.int .i64 oa) := ((unhide HB1n).2 12 (by omega)).1
  have bx13 : W2.cell? ⟨w.heap.size, 13, none⟩ = some (.int .i64 og) := ((unhide HB1n).2 13 (by omega)).1
  clear q7
  go_wp2_with fail
  refine (refEnd_any t sp A len cap s n mo 2 2 wa ga gg oe oa og 185 0 0 _).mono ?_
  rintro en w3 ⟨rfl, hw3⟩
  have BL3 := BL1n.trans (hw3.mono (by omega))
  have HR3 := hide ((unhide HR1n).keep hw3)
  clear bx0 bx1 bx2 bx3 bx4 bx5 bx6 bx7 bx8 bx9 bx10 bx11 bx12 bx13
  clear hw3 BL1n
  (obtain ⟨hrs, ⟨rc0, rc1, rc2, rc3, rc4, rc5, rc6, rc7, rc8, rc9, rc10, rc11, rc12, rc13⟩, ⟨rd0, rd1, rd2, rd3⟩, ⟨rf0, rf1, rf2, rf3, rf4, rf5, rf6, rf7, rf8, rf9, rf10, rf11, rf12, rf13⟩, ⟨rg0, rg1, rg2, rg3⟩⟩ := unhide HR3)
  go_wp2
  (refine bodyPost_ret (v := .tuple #[.agg #[.int .i64 t, .int .i64 sp, .slice A len cap, .int .i64 s, .int .i64 n, .int .i64 mo, .int .i64 3, .int .i64 2, .int .u64 wa, .int .i64 ga, .int .i64 gg, .int .i64 185, .int .i64 0, .int .i64 0], .agg #[.int .i64 0, .int .i64 0, .int .u64 0, .int .u64 0], .bool false]) (by simp only [results, Try.results16]; go_simp) rfl ?_)
  exact ⟨rfl, by repeat (first | (with_reducible exact Below.refl _ _) | (with_reducible assumption) | (with_reducible refine Below.setCell ?_ (by first | (simp; done) | (simp; omega) | omega) _) | (with_reducible refine Below.alloc ?_ (by first | (simp; done) | (simp; omega) | omega) _) | (with_reducible refine Below.drew ?_))⟩


set_option maxRecDepth 100000 in
set_option maxHeartbeats 8000000 in
theorem refNext_again (t sp : Int) (A : Option Addr) (len cap : Nat) (s n mo pl tr wa ga gg oe oa og x p2 tr2 wa2 ga2 gg2 oe2 oa2 og2 k2 a2 o2 v2 : Int) (w : World) (hxw : x ≠ wa) (b2 : Bool) (C : ∀ W, Below w.heap.size w W → Calls Try.prog 41 #[.agg #[.int .i64 t, .int .i64 sp, .slice A len cap, .int .i64 s, .int .i64 n, .int .i64 mo, .int .i64 2, .int .i64 1, .int .u64 wa, .int .i64 ga, .int .i64 gg, .int .i64 oe, .int .i64 oa, .int .i64 og], .int .u64 x] W fun en w' => en = .returned (.tuple #[.agg #[.int .i64 t, .int .i64 sp, .slice A len cap, .int .i64 s, .int .i64 n, .int .i64 mo, .int .i64 p2, .int .i64 tr2, .int .u64 wa2, .int .i64 ga2, .int .i64 gg2, .int .i64 oe2, .int .i64 oa2, .int .i64 og2], .agg #[.int .i64 k2, .int .i64 a2, .int .u64 o2, .int .u64 v2], .bool b2]) ∧ Below W.heap.size W w') :
    Calls Try.prog 16 #[.agg #[.int .i64 t, .int .i64 sp, .slice A len cap, .int .i64 s, .int .i64 n, .int .i64 mo, .int .i64 2, .int .i64 0, .int .u64 wa, .int .i64 ga, .int .i64 gg, .int .i64 oe, .int .i64 oa, .int .i64 og], .int .u64 x] w
      fun en w' => en = .returned (.tuple #[.agg #[.int .i64 t, .int .i64 sp, .slice A len cap, .int .i64 s, .int .i64 n, .int .i64 mo, .int .i64 p2, .int .i64 tr2, .int .u64 wa2, .int .i64 ga2, .int .i64 gg2, .int .i64 oe2, .int .i64 oa2, .int .i64 og2], .agg #[.int .i64 k2, .int .i64 a2, .int .u64 o2, .int .u64 v2], .bool b2]) ∧ Below w.heap.size w w' := by
  have CC := hide C
  clear C
  have hx' : (x == wa) = false := by simpa using hxw
  clear hxw
  obtain ⟨W1, hW1⟩ : ∃ W1, ((w.alloc (.cells #[.int .i64 t, .int .i64 sp, .slice A len cap, .int .i64 s, .int .i64 n, .int .i64 mo, .int .i64 2, .int .i64 0, .int .u64 wa, .int .i64 ga, .int .i64 gg, .int .i64 oe, .int .i64 oa, .int .i64 og] 40)).alloc (.cells #[.int .i64 0, .int .i64 0, .slice none 0 0, .int .i64 0, .int .i64 0, .int .i64 0, .int .i64 0, .int .i64 0, .int .u64 0, .int .i64 0, .int .i64 0, .int .i64 0, .int .i64 0, .int .i64 0] 40)).alloc (.cells #[.int .i64 0, .int .i64 0, .int .u64 0, .int .u64 0] 44) = W1 := ⟨_, rfl⟩
  have hr0 := Rs.new (w.alloc (.cells #[.int .i64 t, .int .i64 sp, .slice A len cap, .int .i64 s, .int .i64 n, .int .i64 mo, .int .i64 2, .int .i64 0, .int .u64 wa, .int .i64 ga, .int .i64 gg, .int .i64 oe, .int .i64 oa, .int .i64 og] 40)) 40 44
  simp only [World.size_alloc] at hr0
  rw [hW1] at hr0
  have HR1 := hide hr0
  have HB1 : Hid (Bx W1 w.heap.size (rcC t sp A len cap s n mo 2 0 wa ga gg oe oa og)) := hide (by rw [← hW1]; exact ((Bx.new w 40 t sp A len cap s n mo 2 0 wa ga gg oe oa og).keep ((Below.refl _ _).alloc (Nat.le_refl _) _)).keep ((Below.refl _ _).alloc (Nat.le_refl _) _))
  have BL1 : Below w.heap.size w W1 := by rw [← hW1]; repeat (first | exact Below.refl _ _ | assumption | refine Below.alloc ?_ (by first | (simp; done) | (simp; omega) | omega) _ | refine Below.setCell ?_ (by first | (simp; done) | (simp; omega) | omega) _ | apply Below.drew | refine Below.trans ?_ (Below.mono (by assumption) (by first | (simp; done) | (simp; omega) | omega)))
  have hq1 : w.heap.size < W1.heap.size := (unhide HB1).1
  have hq2 : w.heap.size + 1 < W1.heap.size := by have := (unhide HR1).1; omega
  clear hr0
  have HW1 := hide hW1
  clear hW1
  have bx0 : W1.cell? ⟨w.heap.size, 0, none⟩ = some (.int .i64 t) := ((unhide HB1).2 0 (by omega)).1
  have bx1 : W1.cell? ⟨w.heap.size, 1, none⟩ = some (.int .i64 sp) := ((unhide HB1).2 1 (by omega)).1
  have bx2 : W1.cell? ⟨w.heap.size, 2, none⟩ = some (.slice A len cap) := ((unhide HB1).2 2 (by omega)).1
  have bx3 : W1.cell? ⟨w.heap.size, 3, none⟩ = some (.int .i64 s) := ((unhide HB1).2 3 (by omega)).1
  have bx4 : W1.cell? ⟨w.heap.size, 4, none⟩ = some (.int .i64 n) := ((unhide HB1).2 4 (by omega)).1
  have bx5 : W1.cell? ⟨w.heap.size, 5, none⟩ = some (.int .i64 mo) := ((unhide HB1).2 5 (by omega)).1
  have bx6 : W1.cell? ⟨w.heap.size, 6, none⟩ = some (.int .i64 2) := ((unhide HB1).2 6 (by omega)).1
  have bx7 : W1.cell? ⟨w.heap.size, 7, none⟩ = some (.int .i64 0) := ((unhide HB1).2 7 (by omega)).1
  have bx8 : W1.cell? ⟨w.heap.size, 8, none⟩ = some (.int .u64 wa) := ((unhide HB1).2 8 (by omega)).1
  have bx9 : W1.cell? ⟨w.heap.size, 9, none⟩ = some (.int .i64 ga) := ((unhide HB1).2 9 (by omega)).1
  have bx10 : W1.cell? ⟨w.heap.size, 10, none⟩ = some (.int .i64 gg) := ((unhide HB1).2 10 (by omega)).1
  have bx11 : W1.cell? ⟨w.heap.size, 11, none⟩ = some (.int .i64 oe) := ((unhide HB1).2 11 (by omega)).1
  have bx12 : W1.cell? ⟨w.heap.size, 12, none⟩ = some (.int .i64 oa) := ((unhide HB1).2 12 (by omega)).1
  have bx13 : W1.cell? ⟨w.heap.size, 13, none⟩ = some (.int .i64 og) := ((unhide HB1).2 13 (by omega)).1
  go_enter Try.func16, Try.ntmps16
  go_upto_region 1 with fail
  rw [unhide HW1]
  have q7 := ((unhide HB1).2 7 (by omega)).2
  go_upto_region 11 with fail
  have HB1n : Hid (Bx (W1.setCell ⟨w.heap.size, 7, none⟩ (.int .i64 1)) w.heap.size (rcC t sp A len cap s n mo 2 1 wa ga gg oe oa og)) := hide (((unhide HB1).set (i := 7) (by omega) (.int .i64 1)).congr (fun i hi => by
    have h : i = 0 ∨ i = 1 ∨ i = 2 ∨ i = 3 ∨ i = 4 ∨ i = 5 ∨ i = 6 ∨ i = 7 ∨ i = 8 ∨ i = 9 ∨ i = 10 ∨ i = 11 ∨ i = 12 ∨ i = 13 := by omega
    rcases h with rfl | rfl | rfl | rfl | rfl | rfl | rfl | rfl | rfl | rfl | rfl | rfl | rfl | rfl <;> rfl))
  have HR1n : Hid (Rs (W1.setCell ⟨w.heap.size, 7, none⟩ (.int .i64 1)) (w.heap.size + 1)) := hide ((unhide HR1).set (by omega) (by omega) _)
  have BL1n : Below w.heap.size w (W1.setCell ⟨w.heap.size, 7, none⟩ (.int .i64 1)) := BL1.setCell (Nat.le_refl _) _
  have hzn : W1.heap.size = (W1.setCell ⟨w.heap.size, 7, none⟩ (.int .i64 1)).heap.size := by simp
  rw [hzn] at hq1 hq2
  generalize (W1.setCell ⟨w.heap.size, 7, none⟩ (.int .i64 1)) = W2 at *
  clear bx0 bx1 bx2 bx3 bx4 bx5 bx6 bx7 bx8 bx9 bx10 bx11 bx12 bx13
  clear BL1 hzn
  have bx0 : W2.cell? ⟨w.heap.size, 0, none⟩ = some (.int .i64 t) := ((unhide HB1n).2 0 (by omega)).1
  have bx1 : W2.cell? ⟨w.heap.size, 1, none⟩ = some (.int .i64 sp) := ((unhide HB1n).2 1 (by omega)).1
  have bx2 : W2.cell? ⟨w.heap.size, 2, none⟩ = some (.slice A len cap) := ((unhide HB1n).2 2 (by omega)).1
  have bx3 : W2.cell? ⟨w.heap.size, 3, none⟩ = some (.int .i64 s) := ((unhide HB1n).2 3 (by omega)).1
  have bx4 : W2.cell? ⟨w.heap.size, 4, none⟩ = some (.int .i64 n) := ((unhide HB1n).2 4 (by omega)).1
  have bx5 : W2.cell? ⟨w.heap.size, 5, none⟩ = some (.int .i64 mo) := ((unhide HB1n).2 5 (by omega)).1
  have bx6 : W2.cell? ⟨w.heap.size, 6, none⟩ = some (.int .i64 2) := ((unhide HB1n).2 6 (by omega)).1
  have bx7 : W2.cell? ⟨w.heap.size, 7, none⟩ = some (.int .i64 1) := ((unhide HB1n).2 7 (by omega)).1
  have bx8 : W2.cell? ⟨w.heap.size, 8, none⟩ = some (.int .u64 wa) := ((unhide HB1n).2 8 (by omega)).1
  have bx9 : W2.cell? ⟨w.heap.size, 9, none⟩ = some (.int .i64 ga) := ((unhide HB1n).2 9 (by omega)).1
  have bx10 : W2.cell? ⟨w.heap.size, 10, none⟩ = some (.int .i64 gg) := ((unhide HB1n).2 10 (by omega)).1
  have bx11 : W2.cell? ⟨w.heap.size, 11, none⟩ = some (.int .i64 oe) := ((unhide HB1n).2 11 (by omega)).1
  have bx12 : W2.cell? ⟨w.heap.size, 12, none⟩ = some (.int .i64 oa) := ((unhide HB1n).2 12 (by omega)).1
  have bx13 : W2.cell? ⟨w.heap.size, 13, none⟩ = some (.int .i64 og) := ((unhide HB1n).2 13 (by omega)).1
  clear q7
  go_wp2_with fail
  refine (unhide CC _ BL1n).mono ?_
  rintro en w3 ⟨rfl, hw3⟩
  have BL3 := BL1n.trans (hw3.mono (by omega))
  have HR3 := hide ((unhide HR1n).keep hw3)
  clear bx0 bx1 bx2 bx3 bx4 bx5 bx6 bx7 bx8 bx9 bx10 bx11 bx12 bx13
  clear hw3 BL1n
  (obtain ⟨hrs, ⟨rc0, rc1, rc2, rc3, rc4, rc5, rc6, rc7, rc8, rc9, rc10, rc11, rc12, rc13⟩, ⟨rd0, rd1, rd2, rd3⟩, ⟨rf0, rf1, rf2, rf3, rf4, rf5, rf6, rf7, rf8, rf9, rf10, rf11, rf12, rf13⟩, ⟨rg0, rg1, rg2, rg3⟩⟩ := unhide HR3)
  go_wp2
  (refine bodyPost_ret (v := .tuple #[.agg #[.int .i64 t, .int .i64 sp, .slice A len cap, .int .i64 s, .int .i64 n, .int .i64 mo, .int .i64 p2, .int .i64 tr2, .int .u64 wa2, .int .i64 ga2, .int .i64 gg2, .int .i64 oe2, .int .i64 oa2, .int .i64 og2], .agg #[.int .i64 k2, .int .i64 a2, .int .u64 o2, .int .u64 v2], .bool b2]) (by simp only [results, Try.results16]; go_simp) rfl ?_)
  exact ⟨rfl, by repeat (first | (with_reducible exact Below.refl _ _) | (with_reducible assumption) | (with_reducible refine Below.setCell ?_ (by first | (simp; done) | (simp; omega) | omega) _) | (with_reducible refine Below.alloc ?_ (by first | (simp; done) | (simp; omega) | omega) _) | (with_reducible refine Below.drew ?_))⟩


set_option maxRecDepth 100000 in
set_option maxHeartbeats 8000000 in
theorem refNext_3 (t sp : Int) (A : Option Addr) (len cap : Nat) (s n mo pl tr wa ga gg oe oa og x : Int) (w : World) :
    Calls Try.prog 16 #[.agg #[.int .i64 t, .int .i64 sp, .slice A len cap, .int .i64 s, .int .i64 n, .int .i64 mo, .int .i64 3, .int .i64 tr, .int .u64 wa, .int .i64 ga, .int .i64 gg, .int .i64 oe, .int .i64 oa, .int .i64 og], .int .u64 x] w
      fun en w' => en = .returned (.tuple #[.agg #[.int .i64 t, .int .i64 sp, .slice A len cap, .int .i64 s, .int .i64 n, .int .i64 mo, .int .i64 3, .int .i64 tr, .int .u64 wa, .int .i64 ga, .int .i64 gg, .int .i64 oe, .int .i64 oa, .int .i64 og], .agg #[.int .i64 0, .int .i64 0, .int .u64 0, .int .u64 0], .bool false]) ∧ Below w.heap.size w w' := by
  obtain ⟨W1, hW1⟩ : ∃ W1, ((w.alloc (.cells #[.int .i64 t, .int .i64 sp, .slice A len cap, .int .i64 s, .int .i64 n, .int .i64 mo, .int .i64 3, .int .i64 tr, .int .u64 wa, .int .i64 ga, .int .i64 gg, .int .i64 oe, .int .i64 oa, .int .i64 og] 40)).alloc (.cells #[.int .i64 0, .int .i64 0, .slice none 0 0, .int .i64 0, .int .i64 0, .int .i64 0, .int .i64 0, .int .i64 0, .int .u64 0, .int .i64 0, .int .i64 0, .int .i64 0, .int .i64 0, .int .i64 0] 40)).alloc (.cells #[.int .i64 0, .int .i64 0, .int .u64 0, .int .u64 0] 44) = W1 := ⟨_, rfl⟩
  have hr0 := Rs.new (w.alloc (.cells #[.int .i64 t, .int .i64 sp, .slice A len cap, .int .i64 s, .int .i64 n, .int .i64 mo, .int .i64 3, .int .i64 tr, .int .u64 wa, .int .i64 ga, .int .i64 gg, .int .i64 oe, .int .i64 oa, .int .i64 og] 40)) 40 44
  simp only [World.size_alloc] at hr0
  rw [hW1] at hr0
  have HR1 := hide hr0
  have HB1 : Hid (Bx W1 w.heap.size (rcC t sp A len cap s n mo 3 tr wa ga gg oe oa og)) := hide (by rw [← hW1]; exact ((Bx.new w 40 t sp A len cap s n mo 3 tr wa ga gg oe oa og).keep ((Below.refl _ _).alloc (Nat.le_refl _) _)).keep ((Below.refl _ _).alloc (Nat.le_refl _) _))
  have BL1 : Below w.heap.size w W1 := by rw [← hW1]; repeat (first | exact Below.refl _ _ | assumption | refine Below.alloc ?_ (by first | (simp; done) | (simp; omega) | omega) _ | refine Below.setCell ?_ (by first | (simp; done) | (simp; omega) | omega) _ | apply Below.drew | refine Below.trans ?_ (Below.mono (by assumption) (by first | (simp; done) | (simp; omega) | omega)))
  have hq1 : w.heap.size < W1.heap.size := (unhide HB1).1
  have hq2 : w.heap.size + 1 < W1.heap.size := by have := (unhide HR1).1; omega
  clear hr0
  have HW1 := hide hW1
  clear hW1
  have bx0 : W1.cell? ⟨w.heap.size, 0, none⟩ = some (.int .i64 t) := ((unhide HB1).2 0 (by omega)).1
  have bx1 : W1.cell? ⟨w.heap.size, 1, none⟩ = some (.int .i64 sp) := ((unhide HB1).2 1 (by omega)).1
  have bx2 : W1.cell? ⟨w.heap.size, 2, none⟩ = some (.slice A len cap) := ((unhide HB1).2 2 (by omega)).1
  have bx3 : W1.cell? ⟨w.heap.size, 3, none⟩ = some (.int .i64 s) := ((unhide HB1).2 3 (by omega)).1
  have bx4 : W1.cell? ⟨w.heap.size, 4, none⟩ = some (.int .i64 n) := ((unhide HB1).2 4 (by omega)).1
  have bx5 : W1.cell? ⟨w.heap.size, 5, none⟩ = some (.int .i64 mo) := ((unhide HB1).2 5 (by omega)).1
  have bx6 : W1.cell? ⟨w.heap.size, 6, none⟩ = some (.int .i64 3) := ((unhide HB1).2 6 (by omega)).1
  have bx7 : W1.cell? ⟨w.heap.size, 7, none⟩ = some (.int .i64 tr) := ((unhide HB1).2 7 (by omega)).1
  have bx8 : W1.cell? ⟨w.heap.size, 8, none⟩ = some (.int .u64 wa) := ((unhide HB1).2 8 (by omega)).1
  have bx9 : W1.cell? ⟨w.heap.size, 9, none⟩ = some (.int .i64 ga) := ((unhide HB1).2 9 (by omega)).1
  have bx10 : W1.cell? ⟨w.heap.size, 10, none⟩ = some (.int .i64 gg) := ((unhide HB1).2 10 (by omega)).1
  have bx11 : W1.cell? ⟨w.heap.size, 11, none⟩ = some (.int .i64 oe) := ((unhide HB1).2 11 (by omega)).1
  have bx12 : W1.cell? ⟨w.heap.size, 12, none⟩ = some (.int .i64 oa) := ((unhide HB1).2 12 (by omega)).1
  have bx13 : W1.cell? ⟨w.heap.size, 13, none⟩ = some (.int .i64 og) := ((unhide HB1).2 13 (by omega)).1
  go_enter Try.func16, Try.ntmps16
  go_upto_region 1 with fail
  rw [unhide HW1]
  (obtain ⟨hrs, ⟨rc0, rc1, rc2, rc3, rc4, rc5, rc6, rc7, rc8, rc9, rc10, rc11, rc12, rc13⟩, ⟨rd0, rd1, rd2, rd3⟩, ⟨rf0, rf1, rf2, rf3, rf4, rf5, rf6, rf7, rf8, rf9, rf10, rf11, rf12, rf13⟩, ⟨rg0, rg1, rg2, rg3⟩⟩ := unhide HR1)
  go_wp2
  (refine bodyPost_ret (v := .tuple #[.agg #[.int .i64 t, .int .i64 sp, .slice A len cap, .int .i64 s, .int .i64 n, .int .i64 mo, .int .i64 3, .int .i64 tr, .int .u64 wa, .int .i64 ga, .int .i64 gg, .int .i64 oe, .int .i64 oa, .int .i64 og], .agg #[.int .i64 0, .int .i64 0, .int .u64 0, .int .u64 0], .bool false]) (by simp only [results, Try.results16]; go_simp) rfl ?_)
  exact ⟨rfl, by repeat (first | (with_reducible exact Below.refl _ _) | (with_reducible assumption) | (with_reducible refine Below.setCell ?_ (by first | (simp; done) | (simp; omega) | omega) _) | (with_reducible refine Below.alloc ?_ (by first | (simp; done) | (simp; omega) | omega) _) | (with_reducible refine Below.drew ?_))⟩


end Go.Proofs.Ytnnllhlcpmmcaaa
