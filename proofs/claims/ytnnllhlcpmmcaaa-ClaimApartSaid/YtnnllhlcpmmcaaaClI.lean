/- The reference of package claim: its machine, walked. -/
import Derived.Test.YtnnllhlcpmmcaaaClS
namespace Go.Proofs.Ytnnllhlcpmmcaaa
set_option linter.unusedVariables false
set_option linter.unusedSimpArgs false
open Go.RowKit

theorem arLoad_any (a : Int) (w : World) : Calls Try.prog 40 #[.int .i64 a] w fun en w' => en = .returned (.agg #[.int .i64 1, .int .i64 a, .int .u64 0, .int .u64 0]) ∧ Below w.heap.size w w' := by
  go_enter Try.func40, Try.ntmps40
  go_wp2
  refine bodyPost_ret (v := .agg #[.int .i64 1, .int .i64 a, .int .u64 0, .int .u64 0]) (by simp only [results, Try.results40]; go_simp) rfl ?_
  exact ⟨rfl, by repeat (first | exact Below.refl _ _ | assumption | refine Below.alloc ?_ (by first | (simp; done) | (simp; omega) | omega) _ | refine Below.setCell ?_ (by first | (simp; done) | (simp; omega) | omega) _ | apply Below.drew | refine Below.trans ?_ (Below.mono (by assumption) (by first | (simp; done) | (simp; omega) | omega)))⟩
theorem arCas_any (a o v : Int) (w : World) : Calls Try.prog 66 #[.int .i64 a, .int .u64 o, .int .u64 v] w fun en w' => en = .returned (.agg #[.int .i64 3, .int .i64 a, .int .u64 o, .int .u64 v]) ∧ Below w.heap.size w w' := by
  go_enter Try.func66, Try.ntmps66
  go_wp2
  refine bodyPost_ret (v := .agg #[.int .i64 3, .int .i64 a, .int .u64 o, .int .u64 v]) (by simp only [results, Try.results66]; go_simp) rfl ?_
  exact ⟨rfl, by repeat (first | exact Below.refl _ _ | assumption | refine Below.alloc ?_ (by first | (simp; done) | (simp; omega) | omega) _ | refine Below.setCell ?_ (by first | (simp; done) | (simp; omega) | omega) _ | apply Below.drew | refine Below.trans ?_ (Below.mono (by assumption) (by first | (simp; done) | (simp; omega) | omega)))⟩

theorem ended_any (t sp : Int) (A : Option Addr) (len cap : Nat) (s n mo pl tr wa ga gg oe oa og : Int) (w : World) : Calls Try.prog 18 #[.agg #[.int .i64 t, .int .i64 sp, .slice A len cap, .int .i64 s, .int .i64 n, .int .i64 mo, .int .i64 pl, .int .i64 tr, .int .u64 wa, .int .i64 ga, .int .i64 gg, .int .i64 oe, .int .i64 oa, .int .i64 og]] w
    fun en w' => en = .returned (.bool (pl == 3)) ∧ Below w.heap.size w w' := by
  go_enter Try.func18, Try.ntmps18
  go_wp2
  go_ret
  exact ⟨rfl, by repeat (first | exact Below.refl _ _ | assumption | refine Below.alloc ?_ (by first | (simp; done) | (simp; omega) | omega) _ | refine Below.setCell ?_ (by first | (simp; done) | (simp; omega) | omega) _ | apply Below.drew | refine Below.trans ?_ (Below.mono (by assumption) (by first | (simp; done) | (simp; omega) | omega)))⟩

set_option maxHeartbeats 2000000 in
theorem refNew14_any (t sp : Int) (A : Option Addr) (len cap : Nat) (s n mo : Int) (w : World) : Calls Try.prog 14 #[.agg #[.int .i64 t, .int .i64 sp, .slice A len cap], .int .i64 s, .int .i64 n, .int .i64 mo] w
    fun en w' => en = .returned (.agg #[.int .i64 t, .int .i64 sp, .slice A len cap, .int .i64 s, .int .i64 n, .int .i64 mo, .int .i64 0, .int .i64 0, .int .u64 0, .int .i64 0, .int .i64 0, .int .i64 0, .int .i64 0, .int .i64 0]) ∧ Below w.heap.size w w' := by
  go_enter Try.func14, Try.ntmps14
  go_wp2
  refine bodyPost_ret (v := .agg #[.int .i64 t, .int .i64 sp, .slice A len cap, .int .i64 s, .int .i64 n, .int .i64 mo, .int .i64 0, .int .i64 0, .int .u64 0, .int .i64 0, .int .i64 0, .int .i64 0, .int .i64 0, .int .i64 0]) (by simp only [results, Try.results14]; go_simp) rfl ?_
  exact ⟨rfl, by repeat (first | exact Below.refl _ _ | assumption | refine Below.alloc ?_ (by first | (simp; done) | (simp; omega) | omega) _ | refine Below.setCell ?_ (by first | (simp; done) | (simp; omega) | omega) _ | apply Below.drew | refine Below.trans ?_ (Below.mono (by assumption) (by first | (simp; done) | (simp; omega) | omega)))⟩

set_option maxHeartbeats 2000000 in
theorem right14_any (t sp : Int) (A : Option Addr) (len cap : Nat) (S : Nat → ByteArray) (hlen : len ≤ 9223372036854775807) (hS : ∀ i, i < len → (S i).size ≤ 9223372036854775807) (s n mo : Int) (w : World) (H : ShOk w A len S) :
    Calls Try.prog 12 #[.agg #[.int .i64 t, .int .i64 sp, .slice A len cap], .int .i64 s, .int .i64 n, .int .i64 mo] w
      fun en w' => en = .returned (.bool (okPB t sp len S && (decide (s = 0 ∨ s = 1) && asN n mo))) ∧ Below w.heap.size w w' := by
  have C := hide (fun W (hW : Below w.heap.size w W) => right06_any t sp A len cap S hlen hS W (H.keep hW))
  clear H hS
  generalize okPB t sp len S = R at C ⊢
  unfold asN
  go_enter Try.func12, Try.ntmps12
  cases R
  · go_wp2_with fail
    refine (unhide C _ (by repeat (first | exact Below.refl _ _ | assumption | refine Below.alloc ?_ (by first | (simp; done) | (simp; omega) | omega) _ | refine Below.setCell ?_ (by first | (simp; done) | (simp; omega) | omega) _ | apply Below.drew | refine Below.trans ?_ (Below.mono (by assumption) (by first | (simp; done) | (simp; omega) | omega))))).mono ?_
    rintro e w1 ⟨rfl, hw1⟩; obtain ⟨hcw1, hfw1⟩ := bcell hw1; (try (simp only [World.size_drew, World.cell?_drew, World.frozen?_drew] at hcw1 hfw1)); have hzw1 := hw1.size; (try (simp only [World.size_alloc, World.size_setCell, World.size_drew] at hzw1)); (try (have hzw1_w_0 : w.heap.size < w1.heap.size := by omega)); (try (have hzw1_w_1 : w.heap.size + 1 < w1.heap.size := by omega)); (try (have hzw1_w_2 : w.heap.size + 1 + 1 < w1.heap.size := by omega)); (try (have hzw1_w_3 : w.heap.size + 1 + 1 + 1 < w1.heap.size := by omega)); (try (have hyw1_w : w.heap.size ≤ w1.heap.size := by omega)); (try (have hyw1_wa : w.heap.size + 1 ≤ w1.heap.size := by omega))
    go_wp2
    all_goals go_ret
    all_goals exact ⟨ret_bool (by simp), by repeat (first | exact Below.refl _ _ | assumption | refine Below.alloc ?_ (by first | (simp; done) | (simp; omega) | omega) _ | refine Below.setCell ?_ (by first | (simp; done) | (simp; omega) | omega) _ | apply Below.drew | refine Below.trans ?_ (Below.mono (by assumption) (by first | (simp; done) | (simp; omega) | omega)))⟩
  · go_wp2_with fail
    refine (unhide C _ (by repeat (first | exact Below.refl _ _ | assumption | refine Below.alloc ?_ (by first | (simp; done) | (simp; omega) | omega) _ | refine Below.setCell ?_ (by first | (simp; done) | (simp; omega) | omega) _ | apply Below.drew | refine Below.trans ?_ (Below.mono (by assumption) (by first | (simp; done) | (simp; omega) | omega))))).mono ?_
    rintro e w1 ⟨rfl, hw1⟩; obtain ⟨hcw1, hfw1⟩ := bcell hw1; (try (simp only [World.size_drew, World.cell?_drew, World.frozen?_drew] at hcw1 hfw1)); have hzw1 := hw1.size; (try (simp only [World.size_alloc, World.size_setCell, World.size_drew] at hzw1)); (try (have hzw1_w_0 : w.heap.size < w1.heap.size := by omega)); (try (have hzw1_w_1 : w.heap.size + 1 < w1.heap.size := by omega)); (try (have hzw1_w_2 : w.heap.size + 1 + 1 < w1.heap.size := by omega)); (try (have hzw1_w_3 : w.heap.size + 1 + 1 + 1 < w1.heap.size := by omega)); (try (have hyw1_w : w.heap.size ≤ w1.heap.size := by omega)); (try (have hyw1_wa : w.heap.size + 1 ≤ w1.heap.size := by omega))
    go_wp2
    all_goals go_ret
    all_goals refine ⟨ret_bool ?_, by repeat (first | exact Below.refl _ _ | assumption | refine Below.alloc ?_ (by first | (simp; done) | (simp; omega) | omega) _ | refine Below.setCell ?_ (by first | (simp; done) | (simp; omega) | omega) _ | apply Below.drew | refine Below.trans ?_ (Below.mono (by assumption) (by first | (simp; done) | (simp; omega) | omega)))⟩
    all_goals (rw [Bool.eq_iff_iff]; simp; omega)

set_option maxHeartbeats 4000000 in
theorem refEnd_any (t sp : Int) (A : Option Addr) (len cap : Nat) (s n mo pl tr wa ga gg oe oa og e a g : Int) (w : World) : Calls Try.prog 42 #[.agg #[.int .i64 t, .int .i64 sp, .slice A len cap, .int .i64 s, .int .i64 n, .int .i64 mo, .int .i64 pl, .int .i64 tr, .int .u64 wa, .int .i64 ga, .int .i64 gg, .int .i64 oe, .int .i64 oa, .int .i64 og], .agg #[.int .i64 e, .int .i64 a, .int .i64 g]] w
    fun en w' => en = .returned (.tuple #[.agg #[.int .i64 t, .int .i64 sp, .slice A len cap, .int .i64 s, .int .i64 n, .int .i64 mo, .int .i64 3, .int .i64 tr, .int .u64 wa, .int .i64 ga, .int .i64 gg, .int .i64 e, .int .i64 a, .int .i64 g], .agg #[.int .i64 0, .int .i64 0, .int .u64 0, .int .u64 0], .bool false]) ∧ Below w.heap.size w w' := by
  go_enter Try.func42, Try.ntmps42
  go_wp2
  go_region
  all_goals go_wp2
  all_goals (refine bodyPost_ret (v := .tuple #[.agg #[.int .i64 t, .int .i64 sp, .slice A len cap, .int .i64 s, .int .i64 n, .int .i64 mo, .int .i64 3, .int .i64 tr, .int .u64 wa, .int .i64 ga, .int .i64 gg, .int .i64 e, .int .i64 a, .int .i64 g], .agg #[.int .i64 0, .int .i64 0, .int .u64 0, .int .u64 0], .bool false]) (by simp only [results, Try.results42]; go_simp) rfl ?_)
  all_goals exact ⟨rfl, by repeat (first | exact Below.refl _ _ | assumption | refine Below.alloc ?_ (by first | (simp; done) | (simp; omega) | omega) _ | refine Below.setCell ?_ (by first | (simp; done) | (simp; omega) | omega) _ | apply Below.drew | refine Below.trans ?_ (Below.mono (by assumption) (by first | (simp; done) | (simp; omega) | omega)))⟩
/-- The cells of the results of a reference's step: a machine, an access. -/
def Rs (W : World) (r : Nat) : Prop := r + 1 < W.heap.size ∧ (W.cell? ⟨r, 0, none⟩ = some (.int .i64 0) ∧ W.cell? ⟨r, 1, none⟩ = some (.int .i64 0) ∧ W.cell? ⟨r, 2, none⟩ = some (.slice none 0 0) ∧ W.cell? ⟨r, 3, none⟩ = some (.int .i64 0) ∧ W.cell? ⟨r, 4, none⟩ = some (.int .i64 0) ∧ W.cell? ⟨r, 5, none⟩ = some (.int .i64 0) ∧ W.cell? ⟨r, 6, none⟩ = some (.int .i64 0) ∧ W.cell? ⟨r, 7, none⟩ = some (.int .i64 0) ∧ W.cell? ⟨r, 8, none⟩ = some (.int .u64 0) ∧ W.cell? ⟨r, 9, none⟩ = some (.int .i64 0) ∧ W.cell? ⟨r, 10, none⟩ = some (.int .i64 0) ∧ W.cell? ⟨r, 11, none⟩ = some (.int .i64 0) ∧ W.cell? ⟨r, 12, none⟩ = some (.int .i64 0) ∧ W.cell? ⟨r, 13, none⟩ = some (.int .i64 0)) ∧ (W.cell? ⟨r + 1, 0, none⟩ = some (.int .i64 0) ∧ W.cell? ⟨r + 1, 1, none⟩ = some (.int .i64 0) ∧ W.cell? ⟨r + 1, 2, none⟩ = some (.int .u64 0) ∧ W.cell? ⟨r + 1, 3, none⟩ = some (.int .u64 0)) ∧ (W.frozen? ⟨r, 0, none⟩ = false ∧ W.frozen? ⟨r, 1, none⟩ = false ∧ W.frozen? ⟨r, 2, none⟩ = false ∧ W.frozen? ⟨r, 3, none⟩ = false ∧ W.frozen? ⟨r, 4, none⟩ = false ∧ W.frozen? ⟨r, 5, none⟩ = false ∧ W.frozen? ⟨r, 6, none⟩ = false ∧ W.frozen? ⟨r, 7, none⟩ = false ∧ W.frozen? ⟨r, 8, none⟩ = false ∧ W.frozen? ⟨r, 9, none⟩ = false ∧ W.frozen? ⟨r, 10, none⟩ = false ∧ W.frozen? ⟨r, 11, none⟩ = false ∧ W.frozen? ⟨r, 12, none⟩ = false ∧ W.frozen? ⟨r, 13, none⟩ = false) ∧ (W.frozen? ⟨r + 1, 0, none⟩ = false ∧ W.frozen? ⟨r + 1, 1, none⟩ = false ∧ W.frozen? ⟨r + 1, 2, none⟩ = false ∧ W.frozen? ⟨r + 1, 3, none⟩ = false)

theorem Rs.keep {W U : World} {r : Nat} (H : Rs W r) (hb : Below W.heap.size W U) : Rs U r := by
  have h1 := H.1
  have e0 : ∀ j, U.cell? ⟨r, j, none⟩ = W.cell? ⟨r, j, none⟩ := fun j => hb.cell (p := ⟨r, j, none⟩) (show r < _ by omega)
  have e1 : ∀ j, U.cell? ⟨r + 1, j, none⟩ = W.cell? ⟨r + 1, j, none⟩ := fun j => hb.cell (p := ⟨r + 1, j, none⟩) h1
  have f0 : ∀ j, U.frozen? ⟨r, j, none⟩ = W.frozen? ⟨r, j, none⟩ := fun j => hb.frozen (p := ⟨r, j, none⟩) (show r < _ by omega)
  have f1 : ∀ j, U.frozen? ⟨r + 1, j, none⟩ = W.frozen? ⟨r + 1, j, none⟩ := fun j => hb.frozen (p := ⟨r + 1, j, none⟩) h1
  have hz := hb.size
  unfold Rs at H ⊢
  simp only [e0, e1, f0, f1]
  exact ⟨by omega, H.2⟩
theorem Rs.new (W : World) (T40 T44 : TypeId) : Rs ((W.alloc (.cells #[.int .i64 0, .int .i64 0, .slice none 0 0, .int .i64 0, .int .i64 0, .int .i64 0, .int .i64 0, .int .i64 0, .int .u64 0, .int .i64 0, .int .i64 0, .int .i64 0, .int .i64 0, .int .i64 0] T40)).alloc (.cells #[.int .i64 0, .int .i64 0, .int .u64 0, .int .u64 0] T44)) W.heap.size := by
  unfold Rs
  refine ⟨by simp, ?_, ?_, ?_, ?_⟩
  · refine ⟨?_, ?_, ?_, ?_, ?_, ?_, ?_, ?_, ?_, ?_, ?_, ?_, ?_, ?_⟩ <;> go_simp
  · refine ⟨?_, ?_, ?_, ?_⟩ <;> go_simp
  · refine ⟨?_, ?_, ?_, ?_, ?_, ?_, ?_, ?_, ?_, ?_, ?_, ?_, ?_, ?_⟩ <;> go_simp
  · refine ⟨?_, ?_, ?_, ?_⟩ <;> go_simp
end Go.Proofs.Ytnnllhlcpmmcaaa
