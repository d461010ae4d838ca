/- The walks of package buffer: Take; the same of its reference. -/
import Derived.Test.YtkmoefijncjlhaaByD
namespace Go.Proofs.Ytkmoefijncjlhaa
set_option linter.unusedVariables false
set_option linter.unusedSimpArgs false
open Go.RowKit

theorem take1_any (q : Nat) (n : Int) (w : World) (hq : w.cell? ⟨q, 0, none⟩ = some (.int .i64 n)) :
    Calls Try.prog 27 #[.pointer (some ⟨q, 0, none⟩)] w fun e w' => e = .returned (.bool (decide (1 ≤ n))) ∧ w = w' := by
  go_enter Try.func27, Try.ntmps27
  go_wp2
  go_ret
  exact ⟨rfl, rfl⟩

set_option maxHeartbeats 2000000 in
theorem allTake_any (x : Value) (R : Bool) (g q : Nat) (n : Int) (w : World) (hg : g < w.heap.size) (hq : q < w.heap.size) (c0 : w.cell? ⟨g, 0, none⟩ = some (.func (.func 23) #[x] #[]))
    (c1 : w.cell? ⟨g, 1, none⟩ = some (.func (.func 27) #[] #[.pointer (some ⟨q, 0, none⟩)])) (c2 : w.cell? ⟨q, 0, none⟩ = some (.int .i64 n))
    (hr : Calls Try.prog 23 #[x] w fun e w' => e = .returned (.bool R) ∧ Below w.heap.size w w') :
    Calls Try.prog 26 #[.slice (some ⟨g, 0, none⟩) 2 2] w fun e w' => e = .returned (.bool (R && decide (1 ≤ n))) ∧ Below w.heap.size w w' := by
  have HR := hide hr
  clear hr
  cases R with
  | false =>
    rw [Bool.false_and]
    clear c1 c2
    go_enter Try.func26, Try.ntmps26
    go_wp2
    refine wp_loop_rounds 1 ?_
    rw [rounds_succ]
    go_wp2_with fail
    refine (unhide HR).mono ?_
    rintro e w2 ⟨rfl, hb2⟩
    go_wp2
    go_ret
    exact ⟨rfl, hb2⟩
  | true =>
    rw [Bool.true_and]
    by_cases h1 : 1 ≤ n
    · have hd : decide (1 ≤ n) = true := by simpa using h1
      rw [hd]
      have HT := hide (fun W (hb : Below w.heap.size w W) => take1_any q n W ((hb.cell (p := ⟨q, 0, none⟩) hq).trans c2))
      rw [hd] at HT
      clear c2 hd h1
      go_enter Try.func26, Try.ntmps26
      go_wp2
      refine wp_loop_rounds 3 ?_
      rw [rounds_succ]
      go_wp2_with fail
      refine (unhide HR).mono ?_
      rintro e w2 ⟨rfl, hb2⟩
      have c1' : w2.cell? ⟨g, 1, none⟩ = some (.func (.func 27) #[] #[.pointer (some ⟨q, 0, none⟩)]) := (hb2.cell (p := ⟨g, 1, none⟩) hg).trans c1
      have HB := hide hb2
      clear hb2 c1 c0
      go_wp2
      rw [rounds_succ]
      go_wp2_with fail
      refine (unhide HT _ (unhide HB)).mono ?_
      rintro e w3 ⟨rfl, rfl⟩
      go_wp2
      rw [rounds_succ]
      go_wp2
      go_ret
      exact ⟨rfl, unhide HB⟩
    · have hd : decide (1 ≤ n) = false := by simpa using h1
      rw [hd]
      have HT := hide (fun W (hb : Below w.heap.size w W) => take1_any q n W ((hb.cell (p := ⟨q, 0, none⟩) hq).trans c2))
      rw [hd] at HT
      clear c2 hd h1
      go_enter Try.func26, Try.ntmps26
      go_wp2
      refine wp_loop_rounds 2 ?_
      rw [rounds_succ]
      go_wp2_with fail
      refine (unhide HR).mono ?_
      rintro e w2 ⟨rfl, hb2⟩
      have c1' : w2.cell? ⟨g, 1, none⟩ = some (.func (.func 27) #[] #[.pointer (some ⟨q, 0, none⟩)]) := (hb2.cell (p := ⟨g, 1, none⟩) hg).trans c1
      have HB := hide hb2
      clear hb2 c1 c0
      go_wp2
      rw [rounds_succ]
      go_wp2_with fail
      refine (unhide HT _ (unhide HB)).mono ?_
      rintro e w3 ⟨rfl, rfl⟩
      go_wp2
      go_ret
      exact ⟨rfl, unhide HB⟩

set_option maxHeartbeats 4000000 in
theorem take_bad (t sp : Int) (A : Option Addr) (len cap : Nat) (S : Nat → ByteArray) (hlen : len ≤ 1000) (hS : ∀ i, i < len → (S i).size ≤ 100) (s a l n : Int) (ha : a ≤ 9223372036854775807) (hb : (rgtB t sp len S s a l && decide (1 ≤ n)) = false) (w : World) (H : ShOk w A len S) :
    Calls Try.prog 15 #[.agg #[.int .i64 t, .int .i64 sp, .slice A len cap], .agg #[.int .i64 s, .int .i64 a, .int .i64 l], .int .i64 n] w
      fun e w' => e = .returned (.tuple #[.agg #[.int .i64 0, .int .i64 0, .int .i64 0], .int .i64 0, .int .i64 2]) ∧ Below w.heap.size w w' := by
  have c1 := hide (fun W (hW : Below w.heap.size w W) => lentRight_any t sp A len cap S hlen hS s a l ha W (H.keep hW))
  generalize rgtB t sp len S s a l = R at c1 hb
  have HB := hide hb
  clear H hS hb
  go_enter Try.func15, Try.ntmps15
  go_wp2
  refine wp_scope_fwd 0 rfl ?_
  go_wp2_with fail
  refine (allTake_any _ R (w.heap.size + 1 + 1 + 1 + 1 + 1) (w.heap.size + 1 + 1) n _ (by simp) (by first | (simp; done) | (simp; omega)) (by go_simp) (by go_simp) (by go_simp) (unhide c1 _ (by repeat (first | exact Below.refl _ _ | assumption | refine Below.alloc ?_ (by first | (simp; done) | (simp; omega) | omega) _ | refine Below.setCell ?_ (by first | (simp; done) | (simp; omega) | omega) _ | apply Below.drew | refine Below.trans ?_ (Below.mono (by assumption) (by first | (simp; done) | (simp; omega) | omega)))))).mono ?_
  rw [unhide HB]
  rintro e w2 ⟨rfl, hw2⟩; obtain ⟨hcw2, hfw2⟩ := bcell hw2; (try (simp only [World.size_drew, World.cell?_drew, World.frozen?_drew] at hcw2 hfw2)); have hzw2 := hw2.size; (try (simp only [World.size_alloc, World.size_setCell, World.size_drew] at hzw2)); (try (have hzw2_w_0 : w.heap.size < w2.heap.size := by omega)); (try (have hzw2_w_1 : w.heap.size + 1 < w2.heap.size := by omega)); (try (have hzw2_w_2 : w.heap.size + 1 + 1 < w2.heap.size := by omega)); (try (have hzw2_w_3 : w.heap.size + 1 + 1 + 1 < w2.heap.size := by omega)); (try (have hyw2_w : w.heap.size ≤ w2.heap.size := by omega)); (try (have hyw2_wa : w.heap.size + 1 ≤ w2.heap.size := by omega))
  have B2 : Below w.heap.size w w2 := by repeat (first | exact Below.refl _ _ | assumption | refine Below.alloc ?_ (by first | (simp; done) | (simp; omega) | omega) _ | refine Below.setCell ?_ (by first | (simp; done) | (simp; omega) | omega) _ | apply Below.drew | refine Below.trans ?_ (Below.mono (by assumption) (by first | (simp; done) | (simp; omega) | omega)))
  go_wp2
  (go_step3; refine fwd_goto ?_; go_wp2)
  (first | rw [fwd_ret] | rw [Exit.noGoto_ret] | skip)
  refine bodyPost_ret (v := .tuple #[.agg #[.int .i64 0, .int .i64 0, .int .i64 0], .int .i64 0, .int .i64 2]) (by simp only [results, Try.results15]; go_simp) rfl ?_
  refine ⟨rfl, ?_⟩
  repeat (first | exact Below.refl _ _ | assumption | refine Below.alloc ?_ (by first | (simp; done) | (simp; omega) | omega) _ | refine Below.setCell ?_ (by first | (simp; done) | (simp; omega) | omega) _ | apply Below.drew | refine Below.trans ?_ (Below.mono (by assumption) (by first | (simp; done) | (simp; omega) | omega)))

set_option maxHeartbeats 4000000 in
theorem take_less (t sp : Int) (A : Option Addr) (len cap : Nat) (S : Nat → ByteArray) (hlen : len ≤ 1000) (hS : ∀ i, i < len → (S i).size ≤ 100) (s a l n : Int) (ha : a ≤ 9223372036854775807) (hb : rgtB t sp len S s a l = true) (h1 : 1 ≤ n) (h2 : l < n) (w : World) (H : ShOk w A len S) :
    Calls Try.prog 15 #[.agg #[.int .i64 t, .int .i64 sp, .slice A len cap], .agg #[.int .i64 s, .int .i64 a, .int .i64 l], .int .i64 n] w
      fun e w' => e = .returned (.tuple #[.agg #[.int .i64 0, .int .i64 0, .int .i64 0], .int .i64 0, .int .i64 4]) ∧ Below w.heap.size w w' := by
  have c1 := hide (fun W (hW : Below w.heap.size w W) => lentRight_any t sp A len cap S hlen hS s a l ha W (H.keep hW))
  rw [hb] at c1
  have HB : Hid ((true && decide (1 ≤ n)) = true) := hide (by simpa using h1)
  clear H hS hb
  go_enter Try.func15, Try.ntmps15
  go_wp2
  refine wp_scope_fwd 0 rfl ?_
  go_wp2_with fail
  refine (allTake_any _ true (w.heap.size + 1 + 1 + 1 + 1 + 1) (w.heap.size + 1 + 1) n _ (by simp) (by first | (simp; done) | (simp; omega)) (by go_simp) (by go_simp) (by go_simp) (unhide c1 _ (by repeat (first | exact Below.refl _ _ | assumption | refine Below.alloc ?_ (by first | (simp; done) | (simp; omega) | omega) _ | refine Below.setCell ?_ (by first | (simp; done) | (simp; omega) | omega) _ | apply Below.drew | refine Below.trans ?_ (Below.mono (by assumption) (by first | (simp; done) | (simp; omega) | omega)))))).mono ?_
  rw [unhide HB]
  rintro e w2 ⟨rfl, hw2⟩; obtain ⟨hcw2, hfw2⟩ := bcell hw2; (try (simp only [World.size_drew, World.cell?_drew, World.frozen?_drew] at hcw2 hfw2)); have hzw2 := hw2.size; (try (simp only [World.size_alloc, World.size_setCell, World.size_drew] at hzw2)); (try (have hzw2_w_0 : w.heap.size < w2.heap.size := by omega)); (try (have hzw2_w_1 : w.heap.size + 1 < w2.heap.size := by omega)); (try (have hzw2_w_2 : w.heap.size + 1 + 1 < w2.heap.size := by omega)); (try (have hzw2_w_3 : w.heap.size + 1 + 1 + 1 < w2.heap.size := by omega)); (try (have hyw2_w : w.heap.size ≤ w2.heap.size := by omega)); (try (have hyw2_wa : w.heap.size + 1 ≤ w2.heap.size := by omega))
  have B2 : Below w.heap.size w w2 := by repeat (first | exact Below.refl _ _ | assumption | refine Below.alloc ?_ (by first | (simp; done) | (simp; omega) | omega) _ | refine Below.setCell ?_ (by first | (simp; done) | (simp; omega) | omega) _ | apply Below.drew | refine Below.trans ?_ (Below.mono (by assumption) (by first | (simp; done) | (simp; omega) | omega)))
  go_wp2
  (go_step3; refine fwd_goto ?_; go_wp2)
  (first | rw [fwd_ret] | rw [Exit.noGoto_ret] | skip)
  refine bodyPost_ret (v := .tuple #[.agg #[.int .i64 0, .int .i64 0, .int .i64 0], .int .i64 0, .int .i64 4]) (by simp only [results, Try.results15]; go_simp) rfl ?_
  refine ⟨rfl, ?_⟩
  repeat (first | exact Below.refl _ _ | assumption | refine Below.alloc ?_ (by first | (simp; done) | (simp; omega) | omega) _ | refine Below.setCell ?_ (by first | (simp; done) | (simp; omega) | omega) _ | apply Below.drew | refine Below.trans ?_ (Below.mono (by assumption) (by first | (simp; done) | (simp; omega) | omega)))

set_option maxHeartbeats 4000000 in
theorem take_ok (t sp : Int) (A : Option Addr) (len cap : Nat) (S : Nat → ByteArray) (hlen : len ≤ 1000) (hS : ∀ i, i < len → (S i).size ≤ 100) (s a l n : Int) (ha : a ≤ 9223372036854775807) (hb : rgtB t sp len S s a l = true) (h1 : 1 ≤ n) (h2 : n ≤ l) (w : World) (H : ShOk w A len S) :
    Calls Try.prog 15 #[.agg #[.int .i64 t, .int .i64 sp, .slice A len cap], .agg #[.int .i64 s, .int .i64 a, .int .i64 l], .int .i64 n] w
      fun e w' => e = .returned (.tuple #[.agg #[.int .i64 s, .int .i64 (rsA (a + n) (l - n)), .int .i64 (l - n)], .int .i64 a, .int .i64 0]) ∧ Below w.heap.size w w' := by
  have c1 := hide (fun W (hW : Below w.heap.size w W) => lentRight_any t sp A len cap S hlen hS s a l ha W (H.keep hW))
  rw [hb] at c1
  have HB : Hid ((true && decide (1 ≤ n)) = true) := hide (by simpa using h1)
  have hw := (rgtB_iff.1 hb).2.2.2.2 (by omega)
  have hbs := bas_le hw.1.1 hw.1.2.1 hw.2.1
  have hsp := hw.1.2.1
  obtain ⟨_, _, q1, q2, q3, q4⟩ := hw
  have b1 : 5 ≤ a := by omega
  have b2 : a ≤ 10000 := by omega
  have b3 : l ≤ 4096 := by omega
  clear H hS hb hbs hsp q1 q2 q3 q4 ha
  have c2 := hide (fun W => rest_any s a l t sp A len cap (a + n) (l - n) W)
  generalize rsA (a + n) (l - n) = Z at c2 ⊢
  go_enter Try.func15, Try.ntmps15
  go_wp2
  refine wp_scope_fwd 0 rfl ?_
  go_wp2_with fail
  refine (allTake_any _ true (w.heap.size + 1 + 1 + 1 + 1 + 1) (w.heap.size + 1 + 1) n _ (by simp) (by first | (simp; done) | (simp; omega)) (by go_simp) (by go_simp) (by go_simp) (unhide c1 _ (by repeat (first | exact Below.refl _ _ | assumption | refine Below.alloc ?_ (by first | (simp; done) | (simp; omega) | omega) _ | refine Below.setCell ?_ (by first | (simp; done) | (simp; omega) | omega) _ | apply Below.drew | refine Below.trans ?_ (Below.mono (by assumption) (by first | (simp; done) | (simp; omega) | omega)))))).mono ?_
  rw [unhide HB]
  rintro e w2 ⟨rfl, hw2⟩; obtain ⟨hcw2, hfw2⟩ := bcell hw2; (try (simp only [World.size_drew, World.cell?_drew, World.frozen?_drew] at hcw2 hfw2)); have hzw2 := hw2.size; (try (simp only [World.size_alloc, World.size_setCell, World.size_drew] at hzw2)); (try (have hzw2_w_0 : w.heap.size < w2.heap.size := by omega)); (try (have hzw2_w_1 : w.heap.size + 1 < w2.heap.size := by omega)); (try (have hzw2_w_2 : w.heap.size + 1 + 1 < w2.heap.size := by omega)); (try (have hzw2_w_3 : w.heap.size + 1 + 1 + 1 < w2.heap.size := by omega)); (try (have hyw2_w : w.heap.size ≤ w2.heap.size := by omega)); (try (have hyw2_wa : w.heap.size + 1 ≤ w2.heap.size := by omega))
  have B2 : Below w.heap.size w w2 := by repeat (first | exact Below.refl _ _ | assumption | refine Below.alloc ?_ (by first | (simp; done) | (simp; omega) | omega) _ | refine Below.setCell ?_ (by first | (simp; done) | (simp; omega) | omega) _ | apply Below.drew | refine Below.trans ?_ (Below.mono (by assumption) (by first | (simp; done) | (simp; omega) | omega)))
  go_upto_region 7 with fail
  have f1 : w2.cell? ⟨w.heap.size + 1, 1, none⟩ = some (.int .i64 a) := by go_simp
  have f2 : w2.cell? ⟨w.heap.size + 1, 2, none⟩ = some (.int .i64 l) := by go_simp
  have f3 : w2.cell? ⟨w.heap.size + 1 + 1, 0, none⟩ = some (.int .i64 n) := by go_simp
  have f4 : w2.cell? ⟨w.heap.size + 1 + 1 + 1, 0, none⟩ = some (.int .i64 0) := by go_simp
  have f5 : w2.cell? ⟨w.heap.size + 1 + 1 + 1, 1, none⟩ = some (.int .i64 0) := by go_simp
  have f6 : w2.cell? ⟨w.heap.size + 1 + 1 + 1, 2, none⟩ = some (.int .i64 0) := by go_simp
  have f7 : w2.frozen? ⟨w.heap.size + 1 + 1 + 1, 0, none⟩ = false := by go_simp
  have f8 : w2.frozen? ⟨w.heap.size + 1 + 1 + 1, 1, none⟩ = false := by go_simp
  have f9 : w2.frozen? ⟨w.heap.size + 1 + 1 + 1, 2, none⟩ = false := by go_simp
  clear hcw2 hfw2
  have e1 : IntKind.i64.wrap (a + n) = a + n := IntWalk.i64_in _ (by omega)
  have e2 : IntKind.i64.wrap (l - n) = l - n := IntWalk.i64_in _ (by omega)
  have h3le : w.heap.size ≤ w.heap.size + 1 + 1 + 1 := by omega
  have tst : Below w.heap.size w w2.drew := by repeat (first | exact Below.refl _ _ | assumption | refine Below.alloc ?_ (by first | (simp; done) | (simp; omega) | omega) _ | refine Below.setCell ?_ (by first | (simp; done) | (simp; omega) | omega) _ | apply Below.drew | refine Below.trans ?_ (Below.mono (by assumption) (by first | (simp; done) | (simp; omega) | omega)))
  go_region_held3 (fun U => Below w.heap.size w U ∧ U.cell? ⟨w.heap.size + 1, 1, none⟩ = some (.int .i64 a) ∧ U.cell? ⟨w.heap.size + 1, 2, none⟩ = some (.int .i64 l) ∧ U.cell? ⟨w.heap.size + 1 + 1, 0, none⟩ = some (.int .i64 n)) (((repeat' apply And.intro) <;> (first | assumption | exact ((g0.setCell (p := ⟨w.heap.size + 1 + 1 + 1, 0, none⟩) h3le _).setCell (p := ⟨w.heap.size + 1 + 1 + 1, 1, none⟩) h3le _).setCell (p := ⟨w.heap.size + 1 + 1 + 1, 2, none⟩) h3le _ | (go_simp; done)))) ((go_at_call 25; refine (unhide c2 _).mono ?_; rintro e w3 ⟨rfl, hw3⟩; obtain ⟨hcw3, hfw3⟩ := bcell hw3; (try (simp only [World.size_drew, World.cell?_drew, World.frozen?_drew] at hcw3 hfw3)); have hzw3 := hw3.size; (try (simp only [World.size_alloc, World.size_setCell, World.size_drew] at hzw3)); (try (have hzw3_w_0 : w.heap.size < w3.heap.size := by omega)); (try (have hzw3_w_1 : w.heap.size + 1 < w3.heap.size := by omega)); (try (have hzw3_w_2 : w.heap.size + 1 + 1 < w3.heap.size := by omega)); (try (have hzw3_w_3 : w.heap.size + 1 + 1 + 1 < w3.heap.size := by omega)); (try (have hyw3_w : w.heap.size ≤ w3.heap.size := by omega)); (try (have hyw3_wa : w.heap.size + 1 ≤ w3.heap.size := by omega)); (try (have hzw3_w2_0 : w2.heap.size < w3.heap.size := by omega)); (try (have hzw3_w2_1 : w2.heap.size + 1 < w3.heap.size := by omega)); (try (have hzw3_w2_2 : w2.heap.size + 1 + 1 < w3.heap.size := by omega)); (try (have hzw3_w2_3 : w2.heap.size + 1 + 1 + 1 < w3.heap.size := by omega)); (try (have hyw3_w2 : w2.heap.size ≤ w3.heap.size := by omega)); (try (have hyw3_w2a : w2.heap.size + 1 ≤ w3.heap.size := by omega)); have g0 : Below w.heap.size w w3 := tst.trans (hw3.mono tst.size); have g1 : w3.cell? ⟨w.heap.size + 1, 1, none⟩ = some (.int .i64 a) := (hw3.cell (p := ⟨w.heap.size + 1, 1, none⟩) (by show w.heap.size + 1 < _; simp only [World.size_drew]; omega)).trans f1; have g2 : w3.cell? ⟨w.heap.size + 1, 2, none⟩ = some (.int .i64 l) := (hw3.cell (p := ⟨w.heap.size + 1, 2, none⟩) (by show w.heap.size + 1 < _; simp only [World.size_drew]; omega)).trans f2; have g3 : w3.cell? ⟨w.heap.size + 1 + 1, 0, none⟩ = some (.int .i64 n) := (hw3.cell (p := ⟨w.heap.size + 1 + 1, 0, none⟩) (by show w.heap.size + 1 + 1 < _; simp only [World.size_drew]; omega)).trans f3))
  all_goals
    clear e1 e2
    go_wp2
    (first | rw [fwd_ret] | rw [Exit.noGoto_ret] | skip)
    refine bodyPost_ret (v := .tuple #[.agg #[.int .i64 s, .int .i64 Z, .int .i64 (l - n)], .int .i64 a, .int .i64 0]) (by simp only [results, Try.results15]; go_simp) rfl ?_
    exact ⟨rfl, ((g0.setCell (p := ⟨w.heap.size + 1 + 1 + 1, 0, none⟩) h3le _).setCell (p := ⟨w.heap.size + 1 + 1 + 1, 1, none⟩) h3le _).setCell (p := ⟨w.heap.size + 1 + 1 + 1, 2, none⟩) h3le _⟩
end Go.Proofs.Ytkmoefijncjlhaa
