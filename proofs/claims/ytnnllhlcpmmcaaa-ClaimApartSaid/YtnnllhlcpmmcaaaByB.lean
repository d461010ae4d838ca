/- The walks of package layout: plans, where a space begins; the same of its reference. -/
import Derived.Test.YtnnllhlcpmmcaaaByA
namespace Go.Proofs.Ytnnllhlcpmmcaaa
set_option linter.unusedVariables false
set_option linter.unusedSimpArgs false
open Go.RowKit

set_option maxHeartbeats 2000000 in
theorem within1_any (lo hi n : Int) (g cap : Nat) (w : World) (hg : g < w.heap.size) (hc : w.cell? ⟨g, 0, none⟩ = some (.int .i64 n)) :
    Calls Try.prog 74 #[.int .i64 lo, .int .i64 hi, .slice (some ⟨g, 0, none⟩) 1 cap] w fun e w' => e = .returned (.bool (decide (lo ≤ n ∧ n ≤ hi))) ∧ w = w' := by
  by_cases h1 : n < lo
  · have hr : Hid (decide (lo ≤ n ∧ n ≤ hi) = false) := hide (by simp; omega)
    generalize decide (lo ≤ n ∧ n ≤ hi) = R at hr ⊢
    have hres := unhide hr
    subst hres
    clear hr
    go_enter Try.func74, Try.ntmps74
    go_wp2
    refine wp_loop_rounds 1 ?_
    rw [rounds_succ]
    go_wp2
    go_ret
    exact ⟨rfl, rfl⟩
  by_cases h2 : hi < n
  · have hr : Hid (decide (lo ≤ n ∧ n ≤ hi) = false) := hide (by simp; omega)
    generalize decide (lo ≤ n ∧ n ≤ hi) = R at hr ⊢
    have hres := unhide hr
    subst hres
    clear hr
    go_enter Try.func74, Try.ntmps74
    go_wp2
    refine wp_loop_rounds 1 ?_
    rw [rounds_succ]
    go_wp2
    go_ret
    exact ⟨rfl, rfl⟩
  · have hr : Hid (decide (lo ≤ n ∧ n ≤ hi) = true) := hide (by simp; omega)
    generalize decide (lo ≤ n ∧ n ≤ hi) = R at hr ⊢
    have hres := unhide hr
    subst hres
    clear hr
    go_enter Try.func74, Try.ntmps74
    go_wp2
    refine wp_loop_rounds 2 ?_
    rw [rounds_succ]
    go_wp2
    rw [rounds_succ]
    go_wp2
    go_ret
    exact ⟨rfl, rfl⟩

theorem okP_not1 {t sp : Int} {len : Nat} {S : Nat → ByteArray} (h : ¬ (1 ≤ t ∧ t ≤ 8)) : okPB t sp len S = false := by
  rw [Bool.eq_false_iff, Ne, okPB_iff]; exact fun hh => h hh.1
theorem okP_not2 {t sp : Int} {len : Nat} {S : Nat → ByteArray} (h : ¬ (32 ≤ sp ∧ sp ≤ 4096)) : okPB t sp len S = false := by
  rw [Bool.eq_false_iff, Ne, okPB_iff]; exact fun hh => h hh.2.1
theorem okP_T {t sp : Int} {len : Nat} {S : Nat → ByteArray} (h : 1 ≤ t ∧ t ≤ 8) (h2 : 32 ≤ sp ∧ sp ≤ 4096) : okPB t sp len S = okTB len S := by
  rw [Bool.eq_iff_iff, okPB_iff, okTB_iff]; exact ⟨fun hh => hh.2.2, fun hh => ⟨h, h2, hh⟩⟩

set_option maxHeartbeats 2000000 in
theorem layChk_any (t sp : Int) (A : Option Addr) (len cap : Nat) (S : Nat → ByteArray) (hlen : len ≤ 9223372036854775807) (hS : ∀ i, i < len → (S i).size ≤ 9223372036854775807) (w : World) (H : ShOk w A len S) :
    Calls Try.prog 70 #[.agg #[.int .i64 t, .int .i64 sp, .slice A len cap]] w fun e w' => e = .returned (.int .i64 (if okPB t sp len S = true then 0 else 2)) ∧ Below w.heap.size w w' := by
  have HH := hide (fun W (hW : Below w.heap.size w W) => H.keep hW)
  have c3 := hide (fun W (hW : Below w.heap.size w W) => shapeChk_any A len cap S hlen hS W (H.keep hW))
  clear H hS
  by_cases h1 : 1 ≤ t ∧ t ≤ 8
  · have e1 : decide (1 ≤ t ∧ t ≤ 8) = true := by simpa using h1
    have C1 := hide (fun (g cap : Nat) W (hg : g < W.heap.size) (hc : W.cell? ⟨g, 0, none⟩ = some (.int .i64 t)) => within1_any 1 8 t g cap W hg hc)
    rw [e1] at C1
    clear e1
    by_cases h2 : 32 ≤ sp ∧ sp ≤ 4096
    · have e2 : decide (32 ≤ sp ∧ sp ≤ 4096) = true := by simpa using h2
      have C2 := hide (fun (g cap : Nat) W (hg : g < W.heap.size) (hc : W.cell? ⟨g, 0, none⟩ = some (.int .i64 sp)) => within1_any 32 4096 sp g cap W hg hc)
      rw [e2] at C2
      clear e2
      rw [okP_T h1 h2]
      generalize (if okTB len S = true then (0 : Int) else 2) = R at c3 ⊢
      clear h1 h2
      go_enter Try.func70, Try.ntmps70
      go_wp2_with fail
      refine (unhide C1 (w.heap.size + 1) 1 _ (by simp) (by go_simp)).mono ?_
      rintro e w' ⟨rfl, rfl⟩
      go_wp2_with fail
      refine (unhide C2 (w.heap.size + 1 + 1) 1 _ (by simp) (by go_simp)).mono ?_
      rintro e w' ⟨rfl, rfl⟩
      go_wp2_with fail
      refine (unhide c3 _ (by repeat (first | exact Below.refl _ _ | assumption | refine Below.alloc ?_ (by first | (simp; done) | (simp; omega) | omega) _ | refine Below.setCell ?_ (by first | (simp; done) | (simp; omega) | omega) _ | apply Below.drew | refine Below.trans ?_ (Below.mono (by assumption) (by first | (simp; done) | (simp; omega) | omega))))).mono ?_
      rintro e w2 ⟨rfl, hb2⟩
      go_wp2
      go_ret
      exact ⟨rfl, by repeat (first | exact Below.refl _ _ | assumption | refine Below.alloc ?_ (by first | (simp; done) | (simp; omega) | omega) _ | refine Below.setCell ?_ (by first | (simp; done) | (simp; omega) | omega) _ | apply Below.drew | refine Below.trans ?_ (Below.mono (by assumption) (by first | (simp; done) | (simp; omega) | omega)))⟩
    · have e2 : decide (32 ≤ sp ∧ sp ≤ 4096) = false := by simpa using h2
      have C2 := hide (fun (g cap : Nat) W (hg : g < W.heap.size) (hc : W.cell? ⟨g, 0, none⟩ = some (.int .i64 sp)) => within1_any 32 4096 sp g cap W hg hc)
      rw [e2] at C2
      clear e2
      rw [okP_not2 h2, if_neg (by simp)]
      clear h1 h2
      go_enter Try.func70, Try.ntmps70
      go_wp2_with fail
      refine (unhide C1 (w.heap.size + 1) 1 _ (by simp) (by go_simp)).mono ?_
      rintro e w' ⟨rfl, rfl⟩
      go_wp2_with fail
      refine (unhide C2 (w.heap.size + 1 + 1) 1 _ (by simp) (by go_simp)).mono ?_
      rintro e w' ⟨rfl, rfl⟩
      go_wp2
      go_ret
      exact ⟨rfl, by repeat (first | exact Below.refl _ _ | assumption | refine Below.alloc ?_ (by first | (simp; done) | (simp; omega) | omega) _ | refine Below.setCell ?_ (by first | (simp; done) | (simp; omega) | omega) _ | apply Below.drew | refine Below.trans ?_ (Below.mono (by assumption) (by first | (simp; done) | (simp; omega) | omega)))⟩
  · have e1 : decide (1 ≤ t ∧ t ≤ 8) = false := by simpa using h1
    have C1 := hide (fun (g cap : Nat) W (hg : g < W.heap.size) (hc : W.cell? ⟨g, 0, none⟩ = some (.int .i64 t)) => within1_any 1 8 t g cap W hg hc)
    rw [e1] at C1
    rw [okP_not1 h1, if_neg (by simp)]
    clear e1 h1
    go_enter Try.func70, Try.ntmps70
    go_wp2_with fail
    refine (unhide C1 (w.heap.size + 1) 1 _ (by simp) (by go_simp)).mono ?_
    rintro e w' ⟨rfl, rfl⟩
    go_wp2
    go_ret
    exact ⟨rfl, by repeat (first | exact Below.refl _ _ | assumption | refine Below.alloc ?_ (by first | (simp; done) | (simp; omega) | omega) _ | refine Below.setCell ?_ (by first | (simp; done) | (simp; omega) | omega) _ | apply Below.drew | refine Below.trans ?_ (Below.mono (by assumption) (by first | (simp; done) | (simp; omega) | omega)))⟩

set_option maxHeartbeats 2000000 in
theorem right06_any (t sp : Int) (A : Option Addr) (len cap : Nat) (S : Nat → ByteArray) (hlen : len ≤ 9223372036854775807) (hS : ∀ i, i < len → (S i).size ≤ 9223372036854775807) (w : World) (H : ShOk w A len S) :
    Calls Try.prog 19 #[.agg #[.int .i64 t, .int .i64 sp, .slice A len cap]] w fun e w' => e = .returned (.bool (okPB t sp len S)) ∧ Below w.heap.size w w' := by
  have c3 := hide (fun W (hW : Below w.heap.size w W) => right03_any A len cap S hlen hS W (H.keep hW))
  clear H hS
  by_cases h1 : 1 ≤ t ∧ t ≤ 8
  · by_cases h2 : 32 ≤ sp ∧ sp ≤ 4096
    · rw [okP_T h1 h2]
      generalize okTB len S = R at c3 ⊢
      obtain ⟨a1, a2⟩ := h1
      obtain ⟨a3, a4⟩ := h2
      go_enter Try.func19, Try.ntmps19
      go_wp2_with fail
      refine (unhide c3 _ (by repeat (first | exact Below.refl _ _ | assumption | refine Below.alloc ?_ (by first | (simp; done) | (simp; omega) | omega) _ | refine Below.setCell ?_ (by first | (simp; done) | (simp; omega) | omega) _ | apply Below.drew | refine Below.trans ?_ (Below.mono (by assumption) (by first | (simp; done) | (simp; omega) | omega))))).mono ?_
      rintro e w2 ⟨rfl, rfl⟩
      go_wp2
      go_ret
      exact ⟨rfl, by repeat (first | exact Below.refl _ _ | assumption | refine Below.alloc ?_ (by first | (simp; done) | (simp; omega) | omega) _ | refine Below.setCell ?_ (by first | (simp; done) | (simp; omega) | omega) _ | apply Below.drew | refine Below.trans ?_ (Below.mono (by assumption) (by first | (simp; done) | (simp; omega) | omega)))⟩
    · rw [okP_not2 h2]
      obtain ⟨a1, a2⟩ := h1
      by_cases h3 : 32 ≤ sp
      · have h4 : ¬ sp ≤ 4096 := by omega
        go_enter Try.func19, Try.ntmps19
        go_wp2
        go_ret
        exact ⟨rfl, by repeat (first | exact Below.refl _ _ | assumption | refine Below.alloc ?_ (by first | (simp; done) | (simp; omega) | omega) _ | refine Below.setCell ?_ (by first | (simp; done) | (simp; omega) | omega) _ | apply Below.drew | refine Below.trans ?_ (Below.mono (by assumption) (by first | (simp; done) | (simp; omega) | omega)))⟩
      · go_enter Try.func19, Try.ntmps19
        go_wp2
        go_ret
        exact ⟨rfl, by repeat (first | exact Below.refl _ _ | assumption | refine Below.alloc ?_ (by first | (simp; done) | (simp; omega) | omega) _ | refine Below.setCell ?_ (by first | (simp; done) | (simp; omega) | omega) _ | apply Below.drew | refine Below.trans ?_ (Below.mono (by assumption) (by first | (simp; done) | (simp; omega) | omega)))⟩
  · rw [okP_not1 h1]
    by_cases h3 : 1 ≤ t
    · have h4 : ¬ t ≤ 8 := by omega
      go_enter Try.func19, Try.ntmps19
      go_wp2
      go_ret
      exact ⟨rfl, by repeat (first | exact Below.refl _ _ | assumption | refine Below.alloc ?_ (by first | (simp; done) | (simp; omega) | omega) _ | refine Below.setCell ?_ (by first | (simp; done) | (simp; omega) | omega) _ | apply Below.drew | refine Below.trans ?_ (Below.mono (by assumption) (by first | (simp; done) | (simp; omega) | omega)))⟩
    · go_enter Try.func19, Try.ntmps19
      go_wp2
      go_ret
      exact ⟨rfl, by repeat (first | exact Below.refl _ _ | assumption | refine Below.alloc ?_ (by first | (simp; done) | (simp; omega) | omega) _ | refine Below.setCell ?_ (by first | (simp; done) | (simp; omega) | omega) _ | apply Below.drew | refine Below.trans ?_ (Below.mono (by assumption) (by first | (simp; done) | (simp; omega) | omega)))⟩

/-- Where a space begins. -/
def bas (t sp n : Int) : Int := 3 + 2 * t + n * sp

theorem base_any (t sp n : Int) (s : Value) (ht : 1 ≤ t ∧ t ≤ 8) (hs : 32 ≤ sp ∧ sp ≤ 4096) (hn : n = 0 ∨ n = 1) (hv : ∃ A len cap, s = .slice A len cap) (w : World) :
    Calls Try.prog 58 #[.agg #[.int .i64 t, .int .i64 sp, s], .int .i64 n] w fun e w' => e = .returned (.int .i64 (bas t sp n)) ∧ Below w.heap.size w w' := by
  obtain ⟨A, len, cap, rfl⟩ := hv
  obtain ⟨a1, a2⟩ := ht
  obtain ⟨a3, a4⟩ := hs
  rcases hn with rfl | rfl
  · go_enter Try.func58, Try.ntmps58
    go_wp2
    go_ret
    exact ⟨ret_int (by unfold bas; omega), by repeat (first | exact Below.refl _ _ | assumption | refine Below.alloc ?_ (by first | (simp; done) | (simp; omega) | omega) _ | refine Below.setCell ?_ (by first | (simp; done) | (simp; omega) | omega) _ | apply Below.drew | refine Below.trans ?_ (Below.mono (by assumption) (by first | (simp; done) | (simp; omega) | omega)))⟩
  · go_enter Try.func58, Try.ntmps58
    go_wp2
    go_ret
    exact ⟨ret_int (by unfold bas; omega), by repeat (first | exact Below.refl _ _ | assumption | refine Below.alloc ?_ (by first | (simp; done) | (simp; omega) | omega) _ | refine Below.setCell ?_ (by first | (simp; done) | (simp; omega) | omega) _ | apply Below.drew | refine Below.trans ?_ (Below.mono (by assumption) (by first | (simp; done) | (simp; omega) | omega)))⟩
theorem refBase_any (t sp n : Int) (s : Value) (ht : 1 ≤ t ∧ t ≤ 8) (hs : 32 ≤ sp ∧ sp ≤ 4096) (hn : n = 0 ∨ n = 1) (hv : ∃ A len cap, s = .slice A len cap) (w : World) :
    Calls Try.prog 26 #[.agg #[.int .i64 t, .int .i64 sp, s], .int .i64 n] w fun e w' => e = .returned (.int .i64 (bas t sp n)) ∧ Below w.heap.size w w' := by
  obtain ⟨A, len, cap, rfl⟩ := hv
  obtain ⟨a1, a2⟩ := ht
  obtain ⟨a3, a4⟩ := hs
  rcases hn with rfl | rfl
  · go_enter Try.func26, Try.ntmps26
    go_wp2
    go_ret
    exact ⟨ret_int (by unfold bas; omega), by repeat (first | exact Below.refl _ _ | assumption | refine Below.alloc ?_ (by first | (simp; done) | (simp; omega) | omega) _ | refine Below.setCell ?_ (by first | (simp; done) | (simp; omega) | omega) _ | apply Below.drew | refine Below.trans ?_ (Below.mono (by assumption) (by first | (simp; done) | (simp; omega) | omega)))⟩
  · go_enter Try.func26, Try.ntmps26
    go_wp2
    go_ret
    exact ⟨ret_int (by unfold bas; omega), by repeat (first | exact Below.refl _ _ | assumption | refine Below.alloc ?_ (by first | (simp; done) | (simp; omega) | omega) _ | refine Below.setCell ?_ (by first | (simp; done) | (simp; omega) | omega) _ | apply Below.drew | refine Below.trans ?_ (Below.mono (by assumption) (by first | (simp; done) | (simp; omega) | omega)))⟩

/-- What Base tells. -/
noncomputable def basV (t sp n : Int) (len : Nat) (S : Nat → ByteArray) : Int := if okPB t sp len S = true ∧ (n = 0 ∨ n = 1) then bas t sp n else 0
noncomputable def basE (t sp n : Int) (len : Nat) (S : Nat → ByteArray) : Int := if okPB t sp len S = true then (if n = 0 ∨ n = 1 then 0 else 4) else 2

set_option maxHeartbeats 2000000 in
theorem of_any (t sp n : Int) (A : Option Addr) (len cap : Nat) (S : Nat → ByteArray) (hlen : len ≤ 9223372036854775807) (hS : ∀ i, i < len → (S i).size ≤ 9223372036854775807) (w : World) (H : ShOk w A len S) :
    Calls Try.prog 57 #[.agg #[.int .i64 t, .int .i64 sp, .slice A len cap], .int .i64 n, .int .i64 2, .func (.func 58) #[.agg #[.int .i64 t, .int .i64 sp, .slice A len cap]] #[]] w
      fun e w' => e = .returned (.tuple #[.int .i64 (basV t sp n len S), .int .i64 (basE t sp n len S)]) ∧ Below w.heap.size w w' := by
  have c1 := hide (fun W (hW : Below w.heap.size w W) => layChk_any t sp A len cap S hlen hS W (H.keep hW))
  clear H hS
  cases e : okPB t sp len S with
  | false =>
    rw [e, if_neg (by simp)] at c1
    have ev : basV t sp n len S = 0 := by unfold basV; rw [e, if_neg (by simp)]
    have ee : basE t sp n len S = 2 := by unfold basE; rw [e, if_neg (by simp)]
    rw [ev, ee]
    clear e ev ee
    go_enter Try.func57, Try.ntmps57
    go_wp2_with fail
    refine (unhide c1 _ (by repeat (first | exact Below.refl _ _ | assumption | refine Below.alloc ?_ (by first | (simp; done) | (simp; omega) | omega) _ | refine Below.setCell ?_ (by first | (simp; done) | (simp; omega) | omega) _ | apply Below.drew | refine Below.trans ?_ (Below.mono (by assumption) (by first | (simp; done) | (simp; omega) | omega))))).mono ?_
    rintro e w2 ⟨rfl, hb2⟩
    go_wp2
    go_ret2
    exact ⟨rfl, by repeat (first | exact Below.refl _ _ | assumption | refine Below.alloc ?_ (by first | (simp; done) | (simp; omega) | omega) _ | refine Below.setCell ?_ (by first | (simp; done) | (simp; omega) | omega) _ | apply Below.drew | refine Below.trans ?_ (Below.mono (by assumption) (by first | (simp; done) | (simp; omega) | omega)))⟩
  | true =>
    rw [e, if_pos rfl] at c1
    have hp := okPB_iff.1 e
    by_cases h1 : n = 0 ∨ n = 1
    · have ev : basV t sp n len S = bas t sp n := by unfold basV; rw [e, if_pos ⟨rfl, h1⟩]
      have ee : basE t sp n len S = 0 := by unfold basE; rw [e, if_pos rfl, if_pos h1]
      rw [ev, ee]
      have c2 := hide (fun W => base_any t sp n (.slice A len cap) hp.1 hp.2.1 h1 ⟨_, _, _, rfl⟩ W)
      have h2 : 0 ≤ n := by omega
      have h3 : n ≤ 1 := by omega
      generalize bas t sp n = R at c2 ⊢
      clear e ev ee hp h1
      go_enter Try.func57, Try.ntmps57
      go_wp2_with fail
      refine (unhide c1 _ (by repeat (first | exact Below.refl _ _ | assumption | refine Below.alloc ?_ (by first | (simp; done) | (simp; omega) | omega) _ | refine Below.setCell ?_ (by first | (simp; done) | (simp; omega) | omega) _ | apply Below.drew | refine Below.trans ?_ (Below.mono (by assumption) (by first | (simp; done) | (simp; omega) | omega))))).mono ?_
      rintro e w2 ⟨rfl, hb2⟩
      go_wp2_with fail
      refine (unhide c2 _).mono ?_
      rintro e w3 ⟨rfl, hb3⟩
      have hz2 := hb2.size
      simp only [World.size_alloc] at hz2
      go_wp2
      go_ret2
      exact ⟨rfl, by repeat (first | exact Below.refl _ _ | assumption | refine Below.alloc ?_ (by first | (simp; done) | (simp; omega) | omega) _ | refine Below.setCell ?_ (by first | (simp; done) | (simp; omega) | omega) _ | apply Below.drew | refine Below.trans ?_ (Below.mono (by assumption) (by first | (simp; done) | (simp; omega) | omega)))⟩
    · have ev : basV t sp n len S = 0 := by unfold basV; rw [if_neg (fun h => h1 h.2)]
      have ee : basE t sp n len S = 4 := by unfold basE; rw [e, if_pos rfl, if_neg h1]
      rw [ev, ee]
      have h2 : n < 0 ∨ 2 ≤ n := by omega
      clear e ev ee hp h1
      rcases h2 with h2 | h2
      · go_enter Try.func57, Try.ntmps57
        go_wp2_with fail
        refine (unhide c1 _ (by repeat (first | exact Below.refl _ _ | assumption | refine Below.alloc ?_ (by first | (simp; done) | (simp; omega) | omega) _ | refine Below.setCell ?_ (by first | (simp; done) | (simp; omega) | omega) _ | apply Below.drew | refine Below.trans ?_ (Below.mono (by assumption) (by first | (simp; done) | (simp; omega) | omega))))).mono ?_
        rintro e w2 ⟨rfl, hb2⟩
        go_wp2
        go_ret2
        exact ⟨rfl, by repeat (first | exact Below.refl _ _ | assumption | refine Below.alloc ?_ (by first | (simp; done) | (simp; omega) | omega) _ | refine Below.setCell ?_ (by first | (simp; done) | (simp; omega) | omega) _ | apply Below.drew | refine Below.trans ?_ (Below.mono (by assumption) (by first | (simp; done) | (simp; omega) | omega)))⟩
      · have h3 : ¬ n < 0 := by omega
        go_enter Try.func57, Try.ntmps57
        go_wp2_with fail
        refine (unhide c1 _ (by repeat (first | exact Below.refl _ _ | assumption | refine Below.alloc ?_ (by first | (simp; done) | (simp; omega) | omega) _ | refine Below.setCell ?_ (by first | (simp; done) | (simp; omega) | omega) _ | apply Below.drew | refine Below.trans ?_ (Below.mono (by assumption) (by first | (simp; done) | (simp; omega) | omega))))).mono ?_
        rintro e w2 ⟨rfl, hb2⟩
        go_wp2
        go_ret2
        exact ⟨rfl, by repeat (first | exact Below.refl _ _ | assumption | refine Below.alloc ?_ (by first | (simp; done) | (simp; omega) | omega) _ | refine Below.setCell ?_ (by first | (simp; done) | (simp; omega) | omega) _ | apply Below.drew | refine Below.trans ?_ (Below.mono (by assumption) (by first | (simp; done) | (simp; omega) | omega)))⟩

set_option maxHeartbeats 2000000 in
theorem layBase_any (t sp n : Int) (A : Option Addr) (len cap : Nat) (S : Nat → ByteArray) (hlen : len ≤ 9223372036854775807) (hS : ∀ i, i < len → (S i).size ≤ 9223372036854775807) (w : World) (H : ShOk w A len S) :
    Calls Try.prog 36 #[.agg #[.int .i64 t, .int .i64 sp, .slice A len cap], .int .i64 n] w
      fun e w' => e = .returned (.tuple #[.int .i64 (basV t sp n len S), .int .i64 (basE t sp n len S)]) ∧ Below w.heap.size w w' := by
  have c1 := hide (fun W (hW : Below w.heap.size w W) => of_any t sp n A len cap S hlen hS W (H.keep hW))
  clear H hS
  generalize basV t sp n len S = V at c1 ⊢
  generalize basE t sp n len S = E at c1 ⊢
  go_enter Try.func36, Try.ntmps36
  go_wp2_with fail
  refine (unhide c1 _ (by repeat (first | exact Below.refl _ _ | assumption | refine Below.alloc ?_ (by first | (simp; done) | (simp; omega) | omega) _ | refine Below.setCell ?_ (by first | (simp; done) | (simp; omega) | omega) _ | apply Below.drew | refine Below.trans ?_ (Below.mono (by assumption) (by first | (simp; done) | (simp; omega) | omega))))).mono ?_
  rintro e w2 ⟨rfl, hb2⟩
  go_wp2
  go_ret2
  exact ⟨rfl, by repeat (first | exact Below.refl _ _ | assumption | refine Below.alloc ?_ (by first | (simp; done) | (simp; omega) | omega) _ | refine Below.setCell ?_ (by first | (simp; done) | (simp; omega) | omega) _ | apply Below.drew | refine Below.trans ?_ (Below.mono (by assumption) (by first | (simp; done) | (simp; omega) | omega)))⟩
end Go.Proofs.Ytnnllhlcpmmcaaa
