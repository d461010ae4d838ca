/- The walks of package layout: plans, where a space begins; the same of its reference. -/
import Derived.Test.YtbkaopeajjechaaByA
namespace Go.Proofs.Ytbkaopeajjechaa
set_option linter.unusedVariables false
set_option linter.unusedSimpArgs false
open Go.RowKit

set_option maxHeartbeats 2000000 in
theorem within1_any (lo hi n : Int) (g cap : Nat) (w : World) (hg : g < w.heap.size) (hc : w.cell? ⟨g, 0, none⟩ = some (.int .i64 n)) :
    Calls Try.prog 50 #[.int .i64 lo, .int .i64 hi, .slice (some ⟨g, 0, none⟩) 1 cap] w fun e w' => e = .returned (.bool (decide (lo ≤ n ∧ n ≤ hi))) ∧ w = w' := by
  by_cases h1 : n < lo
  · have hr : Hid (decide (lo ≤ n ∧ n ≤ hi) = false) := hide (by simp; omega)
    generalize decide (lo ≤ n ∧ n ≤ hi) = R at hr ⊢
    have hres := unhide hr
    subst hres
    clear hr
    go_enter Try.func50, Try.ntmps50
    go_wp2
    refine wp_loop_rounds 1 ?_
    rw [rounds_succ]
    go_wp2
    go_ret
    exact ⟨rfl, rfl⟩
  by_cases h2 : hi < n
  · have hr : Hid (decide (lo ≤ n ∧ n ≤ hi) = false) := hide (by simp; omega)
    generalize decide (lo ≤ n ∧ n ≤ hi) = R at hr ⊢
    have hres := unhide hr
    subst hres
    clear hr
    go_enter Try.func50, Try.ntmps50
    go_wp2
    refine wp_loop_rounds 1 ?_
    rw [rounds_succ]
    go_wp2
    go_ret
    exact ⟨rfl, rfl⟩
  · have hr : Hid (decide (lo ≤ n ∧ n ≤ hi) = true) := hide (by simp; omega)
    generalize decide (lo ≤ n ∧ n ≤ hi) = R at hr ⊢
    have hres := unhide hr
    subst hres
    clear hr
    go_enter Try.func50, Try.ntmps50
    go_wp2
    refine wp_loop_rounds 2 ?_
    rw [rounds_succ]
    go_wp2
    rw [rounds_succ]
    go_wp2
    go_ret
    exact ⟨rfl, rfl⟩

theorem okP_not1 {t sp : Int} {len : Nat} {S : Nat → ByteArray} (h : ¬ (1 ≤ t ∧ t ≤ 8)) : okPB t sp len S = false := by
  rw [Bool.eq_false_iff, Ne, okPB_iff]; exact fun hh => h hh.1
theorem okP_not2 {t sp : Int} {len : Nat} {S : Nat → ByteArray} (h : ¬ (32 ≤ sp ∧ sp ≤ 4096)) : okPB t sp len S = false := by
  rw [Bool.eq_false_iff, Ne, okPB_iff]; exact fun hh => h hh.2.1
theorem okP_T {t sp : Int} {len : Nat} {S : Nat → ByteArray} (h : 1 ≤ t ∧ t ≤ 8) (h2 : 32 ≤ sp ∧ sp ≤ 4096) : okPB t sp len S = okTB len S := by
  rw [Bool.eq_iff_iff, okPB_iff, okTB_iff]; exact ⟨fun hh => hh.2.2, fun hh => ⟨h, h2, hh⟩⟩

set_option maxHeartbeats 2000000 in
theorem layChk_any (t sp : Int) (A : Option Addr) (len cap : Nat) (S : Nat → ByteArray) (hlen : len ≤ 9223372036854775807) (hS : ∀ i, i < len → (S i).size ≤ 9223372036854775807) (w : World) (H : ShOk w A len S) :
    Calls Try.prog 28 #[.agg #[.int .i64 t, .int .i64 sp, .slice A len cap]] w fun e w' => e = .returned (.int .i64 (if okPB t sp len S = true then 0 else 2)) ∧ Below w.heap.size w w' := by
  have HH := hide (fun W (hW : Below w.heap.size w W) => H.keep hW)
  have c3 := hide (fun W (hW : Below w.heap.size w W) => shapeChk_any A len cap S hlen hS W (H.keep hW))
  clear H hS
  by_cases h1 : 1 ≤ t ∧ t ≤ 8
  · have e1 : decide (1 ≤ t ∧ t ≤ 8) = true := by simpa using h1
    have C1 := hide (fun (g cap : Nat) W (hg : g < W.heap.size) (hc : W.cell? ⟨g, 0, none⟩ = some (.int .i64 t)) => within1_any 1 8 t g cap W hg hc)
    rw [e1] at C1
    clear e1
    by_cases h2 : 32 ≤ sp ∧ sp ≤ 4096
    · have e2 : decide (32 ≤ sp ∧ sp ≤ 4096) = true := by simpa using h2
      have C2 := hide (fun (g cap : Nat) W (hg : g < W.heap.size) (hc : W.cell? ⟨g, 0, none⟩ = some (.int .i64 sp)) => within1_any 32 4096 sp g cap W hg hc)
      rw [e2] at C2
      clear e2
      rw [okP_T h1 h2]
      generalize (if okTB len S = true then (0 : Int) else 2) = R at c3 ⊢
      clear h1 h2
      go_enter Try.func28, Try.ntmps28
      go_wp2_with fail
      refine (unhide C1 (w.heap.size + 1) 1 _ (by simp) (by go_simp)).mono ?_
      rintro e w' ⟨rfl, rfl⟩
      go_wp2_with fail
      refine (unhide C2 (w.heap.size + 1 + 1) 1 _ (by simp) (by go_simp)).mono ?_
      rintro e w' ⟨rfl, rfl⟩
      go_wp2_with fail
      refine (unhide c3 _ (by repeat (first | exact Below.refl _ _ | assumption | refine Below.alloc ?_ (by first | (simp; done) | (simp; omega) | omega) _ | refine Below.setCell ?_ (by first | (simp; done) | (simp; omega) | omega) _ | apply Below.drew | refine Below.trans ?_ (Below.mono (by assumption) (by first | (simp; done) | (simp; omega) | omega))))).mono ?_
      rintro e w2 ⟨rfl, hb2⟩
      go_wp2
      go_ret
      exact ⟨rfl, by repeat (first | exact Below.refl _ _ | assumption | refine Below.alloc ?_ (by first | (simp; done) | (simp; omega) | omega) _ | refine Below.setCell ?_ (by first | (simp; done) | (simp; omega) | omega) _ | apply Below.drew | refine Below.trans ?_ (Below.mono (by assumption) (by first | (simp; done) | (simp; omega) | omega)))⟩
    · have e2 : decide (32 ≤ sp ∧ sp ≤ 4096) = false := by simpa using h2
      have C2 := hide (fun (g cap : Nat) W (hg : g < W.heap.size) (hc : W.cell? ⟨g, 0, none⟩ = some (.int .i64 sp)) => within1_any 32 4096 sp g cap W hg hc)
      rw [e2] at C2
      clear e2
      rw [okP_not2 h2, if_neg (by simp)]
      clear h1 h2
      go_enter Try.func28, Try.ntmps28
      go_wp2_with fail
      refine (unhide C1 (w.heap.size + 1) 1 _ (by simp) (by go_simp)).mono ?_
      rintro e w' ⟨rfl, rfl⟩
      go_wp2_with fail
      refine (unhide C2 (w.heap.size + 1 + 1) 1 _ (by simp) (by go_simp)).mono ?_
      rintro e w' ⟨rfl, rfl⟩
      go_wp2
      go_ret
      exact ⟨rfl, by repeat (first | exact Below.refl _ _ | assumption | refine Below.alloc ?_ (by first | (simp; done) | (simp; omega) | omega) _ | refine Below.setCell ?_ (by first | (simp; done) | (simp; omega) | omega) _ | apply Below.drew | refine Below.trans ?_ (Below.mono (by assumption) (by first | (simp; done) | (simp; omega) | omega)))⟩
  · have e1 : decide (1 ≤ t ∧ t ≤ 8) = false := by simpa using h1
    have C1 := hide (fun (g cap : Nat) W (hg : g < W.heap.size) (hc : W.cell? ⟨g, 0, none⟩ = some (.int .i64 t)) => within1_any 1 8 t g cap W hg hc)
    rw [e1] at C1
    rw [okP_not1 h1, if_neg (by simp)]
    clear e1 h1
    go_enter Try.func28, Try.ntmps28
    go_wp2_with fail
    refine (unhide C1 (w.heap.size + 1) 1 _ (by simp) (by go_simp)).mono ?_
    rintro e w' ⟨rfl, rfl⟩
    go_wp2
    go_ret
    exact ⟨rfl, by repeat (first | exact Below.refl _ _ | assumption | refine Below.alloc ?_ (by first | (simp; done) | (simp; omega) | omega) _ | refine Below.setCell ?_ (by first | (simp; done) | (simp; omega) | omega) _ | apply Below.drew | refine Below.trans ?_ (Below.mono (by assumption) (by first | (simp; done) | (simp; omega) | omega)))⟩

set_option maxHeartbeats 2000000 in
theorem right06_any (t sp : Int) (A : Option Addr) (len cap : Nat) (S : Nat → ByteArray) (hlen : len ≤ 9223372036854775807) (hS : ∀ i, i < len → (S i).size ≤ 9223372036854775807) (w : World) (H : ShOk w A len S) :
    Calls Try.prog 39 #[.agg #[.int .i64 t, .int .i64 sp, .slice A len cap]] w fun e w' => e = .returned (.bool (okPB t sp len S)) ∧ Below w.heap.size w w' := by
  have c3 := hide (fun W (hW : Below w.heap.size w W) => right03_any A len cap S hlen hS W (H.keep hW))
  clear H hS
  by_cases h1 : 1 ≤ t ∧ t ≤ 8
  · by_cases h2 : 32 ≤ sp ∧ sp ≤ 4096
    · rw [okP_T h1 h2]
      generalize okTB len S = R at c3 ⊢
      obtain ⟨a1, a2⟩ := h1
      obtain ⟨a3, a4⟩ := h2
      go_enter Try.func39, Try.ntmps39
      go_wp2_with fail
      refine (unhide c3 _ (by repeat (first | exact Below.refl _ _ | assumption | refine Below.alloc ?_ (by first | (simp; done) | (simp; omega) | omega) _ | refine Below.setCell ?_ (by first | (simp; done) | (simp; omega) | omega) _ | apply Below.drew | refine Below.trans ?_ (Below.mono (by assumption) (by first | (simp; done) | (simp; omega) | omega))))).mono ?_
      rintro e w2 ⟨rfl, rfl⟩
      go_wp2
      go_ret
      exact ⟨rfl, by repeat (first | exact Below.refl _ _ | assumption | refine Below.alloc ?_ (by first | (simp; done) | (simp; omega) | omega) _ | refine Below.setCell ?_ (by first | (simp; done) | (simp; omega) | omega) _ | apply Below.drew | refine Below.trans ?_ (Below.mono (by assumption) (by first | (simp; done) | (simp; omega) | omega)))⟩
    · rw [okP_not2 h2]
      obtain ⟨a1, a2⟩ := h1
      by_cases h3 : 32 ≤ sp
      · have h4 : ¬ sp ≤ 4096 := by omega
        go_enter Try.func39, Try.ntmps39
        go_wp2
        go_ret
        exact ⟨rfl, by repeat (first | exact Below.refl _ _ | assumption | refine Below.alloc ?_ (by first | (simp; done) | (simp; omega) | omega) _ | refine Below.setCell ?_ (by first | (simp; done) | (simp; omega) | omega) _ | apply Below.drew | refine Below.trans ?_ (Below.mono (by assumption) (by first | (simp; done) | (simp; omega) | omega)))⟩
      · go_enter Try.func39, Try.ntmps39
        go_wp2
        go_ret
        exact ⟨rfl, by repeat (first | exact Below.refl _ _ | assumption | refine Below.alloc ?_ (by first | (simp; done) | (simp; omega) | omega) _ | refine Below.setCell ?_ (by first | (simp; done) | (simp; omega) | omega) _ | apply Below.drew | refine Below.trans ?_ (Below.mono (by assumption) (by first | (simp; done) | (simp; omega) | omega)))⟩
  · rw [okP_not1 h1]
    by_cases h3 : 1 ≤ t
    · have h4 : ¬ t ≤ 8 := by omega
      go_enter Try.func39, Try.ntmps39
      go_wp2
      go_ret
      exact ⟨rfl, by repeat (first | exact Below.refl _ _ | assumption | refine Below.alloc ?_ (by first | (simp; done) | (simp; omega) | omega) _ | refine Below.setCell ?_ (by first | (simp; done) | (simp; omega) | omega) _ | apply Below.drew | refine Below.trans ?_ (Below.mono (by assumption) (by first | (simp; done) | (simp; omega) | omega)))⟩
    · go_enter Try.func39, Try.ntmps39
      go_wp2
      go_ret
      exact ⟨rfl, by repeat (first | exact Below.refl _ _ | assumption | refine Below.alloc ?_ (by first | (simp; done) | (simp; omega) | omega) _ | refine Below.setCell ?_ (by first | (simp; done) | (simp; omega) | omega) _ | apply Below.drew | refine Below.trans ?_ (Below.mono (by assumption) (by first | (simp; done) | (simp; omega) | omega)))⟩

end Go.Proofs.Ytbkaopeajjechaa
