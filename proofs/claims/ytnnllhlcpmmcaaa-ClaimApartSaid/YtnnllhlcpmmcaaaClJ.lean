/- The reference of package claim: a frontier's word looked at. -/
import Derived.Test.YtnnllhlcpmmcaaaClI
namespace Go.Proofs.Ytnnllhlcpmmcaaa
set_option linter.unusedVariables false
set_option linter.unusedSimpArgs false
open Go.RowKit

/-- The reference's machine, cell by cell. -/
def rcC (t sp : Int) (A : Option Addr) (len cap : Nat) (s n mo pl tr wa ga gg oe oa og : Int) : Nat → Value
  | 0 => .int .i64 t
  | 1 => .int .i64 sp
  | 2 => .slice A len cap
  | 3 => .int .i64 s
  | 4 => .int .i64 n
  | 5 => .int .i64 mo
  | 6 => .int .i64 pl
  | 7 => .int .i64 tr
  | 8 => .int .u64 wa
  | 9 => .int .i64 ga
  | 10 => .int .i64 gg
  | 11 => .int .i64 oe
  | 12 => .int .i64 oa
  | 13 => .int .i64 og
  | _ => .int .i64 0

def Bx (W : World) (b : Nat) (c : Nat → Value) : Prop := b < W.heap.size ∧ ∀ i, i < 14 → W.cell? ⟨b, i, none⟩ = some (c i) ∧ W.frozen? ⟨b, i, none⟩ = false
theorem Bx.keep {w W : World} {b : Nat} {c : Nat → Value} (H : Bx w b c) (hb : Below w.heap.size w W) : Bx W b c :=
  ⟨Nat.lt_of_lt_of_le H.1 hb.size, fun i hi => ⟨(hb.cell (p := ⟨b, i, none⟩) H.1).trans (H.2 i hi).1, (hb.frozen (p := ⟨b, i, none⟩) H.1).trans (H.2 i hi).2⟩⟩
theorem Bx.new (W : World) (ty : TypeId) (t sp : Int) (A : Option Addr) (len cap : Nat) (s n mo pl tr wa ga gg oe oa og : Int) :
    Bx (W.alloc (.cells #[.int .i64 t, .int .i64 sp, .slice A len cap, .int .i64 s, .int .i64 n, .int .i64 mo, .int .i64 pl, .int .i64 tr, .int .u64 wa, .int .i64 ga, .int .i64 gg, .int .i64 oe, .int .i64 oa, .int .i64 og] ty)) W.heap.size (rcC t sp A len cap s n mo pl tr wa ga gg oe oa og) := by
  refine ⟨by rw [World.size_alloc]; omega, fun i hi => ?_⟩
  have h : i = 0 ∨ i = 1 ∨ i = 2 ∨ i = 3 ∨ i = 4 ∨ i = 5 ∨ i = 6 ∨ i = 7 ∨ i = 8 ∨ i = 9 ∨ i = 10 ∨ i = 11 ∨ i = 12 ∨ i = 13 := by omega
  rcases h with rfl | rfl | rfl | rfl | rfl | rfl | rfl | rfl | rfl | rfl | rfl | rfl | rfl | rfl <;> exact ⟨by go_simp; rfl, by go_simp⟩

theorem Bx.set {W : World} {b i : Nat} {c : Nat → Value} (H : Bx W b c) (hi : i < 14) (v : Value) : Bx (W.setCell ⟨b, i, none⟩ v) b (up c i v) :=
  ⟨by simpa using H.1, fun j hj => ⟨by
    by_cases e : j = i
    · subst e
      rw [World.cell?_setCell_same _ _ _ (H.2 j hj).1]
      simp [up]
    · rw [World.cell?_setCell_other _ _ _ _ (fun x => by injection x with _ x _; omega)]
      simpa [up, e] using (H.2 j hj).1, by rw [World.frozen?_setCell]; exact (H.2 j hj).2⟩⟩
theorem Bx.congr {W : World} {b : Nat} {c d : Nat → Value} (H : Bx W b c) (e : ∀ i, i < 14 → c i = d i) : Bx W b d := ⟨H.1, fun i hi => by rw [← e i hi]; exact H.2 i hi⟩
theorem Rs.set {W : World} {r b i : Nat} (H : Rs W r) (h1 : b ≠ r) (h2 : b ≠ r + 1) (v : Value) : Rs (W.setCell ⟨b, i, none⟩ v) r := by
  have e0 : ∀ j, (W.setCell ⟨b, i, none⟩ v).cell? ⟨r, j, none⟩ = W.cell? ⟨r, j, none⟩ := fun j => World.cell?_setCell_other _ _ _ _ (fun x => h1 (by injection x))
  have e1 : ∀ j, (W.setCell ⟨b, i, none⟩ v).cell? ⟨r + 1, j, none⟩ = W.cell? ⟨r + 1, j, none⟩ := fun j => World.cell?_setCell_other _ _ _ _ (fun x => h2 (by injection x))
  have h := H.1
  unfold Rs at H ⊢
  simp only [e0, e1, World.frozen?_setCell]
  exact ⟨by simpa using h, H.2⟩

set_option maxHeartbeats 4000000 in
theorem refLook_a (t sp : Int) (A : Option Addr) (len cap : Nat) (s n mo pl tr wa ga gg oe oa og x : Int) (w : World) (hx0 : 0 ≤ x) (hx : x ≤ 18446744073709551615) (hb : ofFrontB x = false) :
    Calls Try.prog 41 #[.agg #[.int .i64 t, .int .i64 sp, .slice A len cap, .int .i64 s, .int .i64 n, .int .i64 mo, .int .i64 pl, .int .i64 tr, .int .u64 wa, .int .i64 ga, .int .i64 gg, .int .i64 oe, .int .i64 oa, .int .i64 og], .int .u64 x] w
      fun en w' => en = .returned (.tuple #[.agg #[.int .i64 t, .int .i64 sp, .slice A len cap, .int .i64 s, .int .i64 n, .int .i64 mo, .int .i64 3, .int .i64 tr, .int .u64 wa, .int .i64 ga, .int .i64 gg, .int .i64 240, .int .i64 0, .int .i64 0], .agg #[.int .i64 0, .int .i64 0, .int .u64 0, .int .u64 0], .bool false]) ∧ Below w.heap.size w w' := by
  have CO := hide (fun W => refOfFront_any x W hx0 hx)
  rw [show ofFrontF x = ⟨0, 0, 0, 0, 2⟩ by unfold ofFrontF; rw [hb]; rfl] at CO
  clear hb
  go_enter Try.func41, Try.ntmps41
  go_wp2_with fail
  refine (unhide CO _).mono ?_
  unfold FrontRes.val
  rintro en w1 ⟨rfl, hw1⟩
  have hr0 := Rs.new (w.alloc (.cells #[.int .i64 t, .int .i64 sp, .slice A len cap, .int .i64 s, .int .i64 n, .int .i64 mo, .int .i64 pl, .int .i64 tr, .int .u64 wa, .int .i64 ga, .int .i64 gg, .int .i64 oe, .int .i64 oa, .int .i64 og] 40)) 40 44
  have hz0 := hw1.size
  simp only [World.size_alloc] at hr0 hz0
  have HR1 := hide (hr0.keep hw1)
  have HB1 := hide ((((Bx.new w 40 t sp A len cap s n mo pl tr wa ga gg oe oa og).keep ((Below.refl _ _).alloc (Nat.le_refl _) _)).keep ((Below.refl _ _).alloc (Nat.le_refl _) _)).keep hw1)
  have B1 : Below w.heap.size w w1 := by repeat (first | exact Below.refl _ _ | assumption | refine Below.alloc ?_ (by first | (simp; done) | (simp; omega) | omega) _ | refine Below.setCell ?_ (by first | (simp; done) | (simp; omega) | omega) _ | apply Below.drew | refine Below.trans ?_ (Below.mono (by assumption) (by first | (simp; done) | (simp; omega) | omega)))
  have hq1 : w.heap.size < w1.heap.size := by omega
  clear hr0 hw1 hz0
  (have bx0 : (w1).cell? ⟨w.heap.size, 0, none⟩ = some (.int .i64 t) := ((unhide HB1).2 0 (by omega)).1); (have bx1 : (w1).cell? ⟨w.heap.size, 1, none⟩ = some (.int .i64 sp) := ((unhide HB1).2 1 (by omega)).1); (have bx2 : (w1).cell? ⟨w.heap.size, 2, none⟩ = some (.slice A len cap) := ((unhide HB1).2 2 (by omega)).1); (have bx3 : (w1).cell? ⟨w.heap.size, 3, none⟩ = some (.int .i64 s) := ((unhide HB1).2 3 (by omega)).1); (have bx4 : (w1).cell? ⟨w.heap.size, 4, none⟩ = some (.int .i64 n) := ((unhide HB1).2 4 (by omega)).1); (have bx5 : (w1).cell? ⟨w.heap.size, 5, none⟩ = some (.int .i64 mo) := ((unhide HB1).2 5 (by omega)).1); (have bx6 : (w1).cell? ⟨w.heap.size, 6, none⟩ = some (.int .i64 pl) := ((unhide HB1).2 6 (by omega)).1); (have bx7 : (w1).cell? ⟨w.heap.size, 7, none⟩ = some (.int .i64 tr) := ((unhide HB1).2 7 (by omega)).1); (have bx8 : (w1).cell? ⟨w.heap.size, 8, none⟩ = some (.int .u64 wa) := ((unhide HB1).2 8 (by omega)).1); (have bx9 : (w1).cell? ⟨w.heap.size, 9, none⟩ = some (.int .i64 ga) := ((unhide HB1).2 9 (by omega)).1); (have bx10 : (w1).cell? ⟨w.heap.size, 10, none⟩ = some (.int .i64 gg) := ((unhide HB1).2 10 (by omega)).1); (have bx11 : (w1).cell? ⟨w.heap.size, 11, none⟩ = some (.int .i64 oe) := ((unhide HB1).2 11 (by omega)).1); (have bx12 : (w1).cell? ⟨w.heap.size, 12, none⟩ = some (.int .i64 oa) := ((unhide HB1).2 12 (by omega)).1); (have bx13 : (w1).cell? ⟨w.heap.size, 13, none⟩ = some (.int .i64 og) := ((unhide HB1).2 13 (by omega)).1)
  go_wp2_with fail
  refine (refEnd_any t sp A len cap s n mo pl tr wa ga gg oe oa og 240 0 0 _).mono ?_
  rintro en w2 ⟨rfl, hw2⟩
  have B12 : Below w1.heap.size w1 w2 := by repeat (first | exact Below.refl _ _ | assumption | refine Below.alloc ?_ (by first | (simp; done) | (simp; omega) | omega) _ | refine Below.setCell ?_ (by first | (simp; done) | (simp; omega) | omega) _ | apply Below.drew | refine Below.trans ?_ (Below.mono (by assumption) (by first | (simp; done) | (simp; omega) | omega)))
  have B2 : Below w.heap.size w w2 := B1.trans (B12.mono (by omega))
  have HR2 := hide ((unhide HR1).keep B12)
  clear bx0 bx1 bx2 bx3 bx4 bx5 bx6 bx7 bx8 bx9 bx10 bx11 bx12 bx13
  clear hw2 B12 B1 HR1 HB1
  (obtain ⟨hrs, ⟨rc0, rc1, rc2, rc3, rc4, rc5, rc6, rc7, rc8, rc9, rc10, rc11, rc12, rc13⟩, ⟨rd0, rd1, rd2, rd3⟩, ⟨rf0, rf1, rf2, rf3, rf4, rf5, rf6, rf7, rf8, rf9, rf10, rf11, rf12, rf13⟩, ⟨rg0, rg1, rg2, rg3⟩⟩ := unhide HR2)
  go_wp2
  refine bodyPost_ret (v := .tuple #[.agg #[.int .i64 t, .int .i64 sp, .slice A len cap, .int .i64 s, .int .i64 n, .int .i64 mo, .int .i64 3, .int .i64 tr, .int .u64 wa, .int .i64 ga, .int .i64 gg, .int .i64 240, .int .i64 0, .int .i64 0], .agg #[.int .i64 0, .int .i64 0, .int .u64 0, .int .u64 0], .bool false]) (by simp only [results, Try.results41]; go_simp) rfl ?_
  exact ⟨rfl, by repeat (first | (with_reducible exact Below.refl _ _) | (with_reducible assumption) | (with_reducible refine Below.setCell ?_ (by first | (simp; done) | (simp; omega) | omega) _) | (with_reducible refine Below.alloc ?_ (by first | (simp; done) | (simp; omega) | omega) _) | (with_reducible refine Below.drew ?_))⟩

set_option maxHeartbeats 4000000 in
theorem refLook_b (t sp : Int) (A : Option Addr) (len cap : Nat) (s n mo pl tr wa ga gg oe oa og x fs fl fh fo : Int) (w : World) (hx0 : 0 ≤ x) (hx : x ≤ 18446744073709551615) (hb : ofFrontF x = ⟨fs, fl, fh, fo, 0⟩) (hgt : sp < fh) :
    Calls Try.prog 41 #[.agg #[.int .i64 t, .int .i64 sp, .slice A len cap, .int .i64 s, .int .i64 n, .int .i64 mo, .int .i64 pl, .int .i64 tr, .int .u64 wa, .int .i64 ga, .int .i64 gg, .int .i64 oe, .int .i64 oa, .int .i64 og], .int .u64 x] w
      fun en w' => en = .returned (.tuple #[.agg #[.int .i64 t, .int .i64 sp, .slice A len cap, .int .i64 s, .int .i64 n, .int .i64 mo, .int .i64 3, .int .i64 tr, .int .u64 wa, .int .i64 ga, .int .i64 gg, .int .i64 240, .int .i64 0, .int .i64 0], .agg #[.int .i64 0, .int .i64 0, .int .u64 0, .int .u64 0], .bool false]) ∧ Below w.heap.size w w' := by
  have CO := hide (fun W => refOfFront_any x W hx0 hx)
  rw [hb] at CO
  clear hb
  go_enter Try.func41, Try.ntmps41
  go_wp2_with fail
  refine (unhide CO _).mono ?_
  unfold FrontRes.val
  rintro en w1 ⟨rfl, hw1⟩
  have hr0 := Rs.new (w.alloc (.cells #[.int .i64 t, .int .i64 sp, .slice A len cap, .int .i64 s, .int .i64 n, .int .i64 mo, .int .i64 pl, .int .i64 tr, .int .u64 wa, .int .i64 ga, .int .i64 gg, .int .i64 oe, .int .i64 oa, .int .i64 og] 40)) 40 44
  have hz0 := hw1.size
  simp only [World.size_alloc] at hr0 hz0
  have HR1 := hide (hr0.keep hw1)
  have HB1 := hide ((((Bx.new w 40 t sp A len cap s n mo pl tr wa ga gg oe oa og).keep ((Below.refl _ _).alloc (Nat.le_refl _) _)).keep ((Below.refl _ _).alloc (Nat.le_refl _) _)).keep hw1)
  have B1 : Below w.heap.size w w1 := by repeat (first | exact Below.refl _ _ | assumption | refine Below.alloc ?_ (by first | (simp; done) | (simp; omega) | omega) _ | refine Below.setCell ?_ (by first | (simp; done) | (simp; omega) | omega) _ | apply Below.drew | refine Below.trans ?_ (Below.mono (by assumption) (by first | (simp; done) | (simp; omega) | omega)))
  have hq1 : w.heap.size < w1.heap.size := by omega
  clear hr0 hw1 hz0
  (have bx0 : (w1).cell? ⟨w.heap.size, 0, none⟩ = some (.int .i64 t) := ((unhide HB1).2 0 (by omega)).1); (have bx1 : (w1).cell? ⟨w.heap.size, 1, none⟩ = some (.int .i64 sp) := ((unhide HB1).2 1 (by omega)).1); (have bx2 : (w1).cell? ⟨w.heap.size, 2, none⟩ = some (.slice A len cap) := ((unhide HB1).2 2 (by omega)).1); (have bx3 : (w1).cell? ⟨w.heap.size, 3, none⟩ = some (.int .i64 s) := ((unhide HB1).2 3 (by omega)).1); (have bx4 : (w1).cell? ⟨w.heap.size, 4, none⟩ = some (.int .i64 n) := ((unhide HB1).2 4 (by omega)).1); (have bx5 : (w1).cell? ⟨w.heap.size, 5, none⟩ = some (.int .i64 mo) := ((unhide HB1).2 5 (by omega)).1); (have bx6 : (w1).cell? ⟨w.heap.size, 6, none⟩ = some (.int .i64 pl) := ((unhide HB1).2 6 (by omega)).1); (have bx7 : (w1).cell? ⟨w.heap.size, 7, none⟩ = some (.int .i64 tr) := ((unhide HB1).2 7 (by omega)).1); (have bx8 : (w1).cell? ⟨w.heap.size, 8, none⟩ = some (.int .u64 wa) := ((unhide HB1).2 8 (by omega)).1); (have bx9 : (w1).cell? ⟨w.heap.size, 9, none⟩ = some (.int .i64 ga) := ((unhide HB1).2 9 (by omega)).1); (have bx10 : (w1).cell? ⟨w.heap.size, 10, none⟩ = some (.int .i64 gg) := ((unhide HB1).2 10 (by omega)).1); (have bx11 : (w1).cell? ⟨w.heap.size, 11, none⟩ = some (.int .i64 oe) := ((unhide HB1).2 11 (by omega)).1); (have bx12 : (w1).cell? ⟨w.heap.size, 12, none⟩ = some (.int .i64 oa) := ((unhide HB1).2 12 (by omega)).1); (have bx13 : (w1).cell? ⟨w.heap.size, 13, none⟩ = some (.int .i64 og) := ((unhide HB1).2 13 (by omega)).1)
  go_wp2_with fail
  refine (refEnd_any t sp A len cap s n mo pl tr wa ga gg oe oa og 240 0 0 _).mono ?_
  rintro en w2 ⟨rfl, hw2⟩
  have B12 : Below w1.heap.size w1 w2 := by repeat (first | exact Below.refl _ _ | assumption | refine Below.alloc ?_ (by first | (simp; done) | (simp; omega) | omega) _ | refine Below.setCell ?_ (by first | (simp; done) | (simp; omega) | omega) _ | apply Below.drew | refine Below.trans ?_ (Below.mono (by assumption) (by first | (simp; done) | (simp; omega) | omega)))
  have B2 : Below w.heap.size w w2 := B1.trans (B12.mono (by omega))
  have HR2 := hide ((unhide HR1).keep B12)
  clear bx0 bx1 bx2 bx3 bx4 bx5 bx6 bx7 bx8 bx9 bx10 bx11 bx12 bx13
  clear hw2 B12 B1 HR1 HB1
  (obtain ⟨hrs, ⟨rc0, rc1, rc2, rc3, rc4, rc5, rc6, rc7, rc8, rc9, rc10, rc11, rc12, rc13⟩, ⟨rd0, rd1, rd2, rd3⟩, ⟨rf0, rf1, rf2, rf3, rf4, rf5, rf6, rf7, rf8, rf9, rf10, rf11, rf12, rf13⟩, ⟨rg0, rg1, rg2, rg3⟩⟩ := unhide HR2)
  go_wp2
  refine bodyPost_ret (v := .tuple #[.agg #[.int .i64 t, .int .i64 sp, .slice A len cap, .int .i64 s, .int .i64 n, .int .i64 mo, .int .i64 3, .int .i64 tr, .int .u64 wa, .int .i64 ga, .int .i64 gg, .int .i64 240, .int .i64 0, .int .i64 0], .agg #[.int .i64 0, .int .i64 0, .int .u64 0, .int .u64 0], .bool false]) (by simp only [results, Try.results41]; go_simp) rfl ?_
  exact ⟨rfl, by repeat (first | (with_reducible exact Below.refl _ _) | (with_reducible assumption) | (with_reducible refine Below.setCell ?_ (by first | (simp; done) | (simp; omega) | omega) _) | (with_reducible refine Below.alloc ?_ (by first | (simp; done) | (simp; omega) | omega) _) | (with_reducible refine Below.drew ?_))⟩

end Go.Proofs.Ytnnllhlcpmmcaaa
