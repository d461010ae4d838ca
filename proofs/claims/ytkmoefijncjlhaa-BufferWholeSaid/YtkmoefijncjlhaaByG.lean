/- The walks of package buffer: Give; Take and Give of its reference. -/
import Derived.Test.YtkmoefijncjlhaaByF
import Derived.Test.YtkmoefijncjlhaaByE
namespace Go.Proofs.Ytkmoefijncjlhaa
set_option linter.unusedVariables false
set_option linter.unusedSimpArgs false
open Go.RowKit

/-- What Take answers. -/
noncomputable def tkE (t sp : Int) (len : Nat) (S : Nat → ByteArray) (s a l n : Int) : Int := if rgtB t sp len S s a l = true ∧ 1 ≤ n then (if n ≤ l then 0 else 4) else 2

set_option maxHeartbeats 4000000 in
theorem refTake_bad (t sp : Int) (A : Option Addr) (len cap : Nat) (S : Nat → ByteArray) (hlen : len ≤ 1000) (hS : ∀ i, i < len → (S i).size ≤ 100) (s a l n : Int) (hb : (rgtB t sp len S s a l && decide (1 ≤ n)) = false) (w : World) (H : ShOk w A len S) :
    Calls Try.prog 16 #[.agg #[.int .i64 t, .int .i64 sp, .slice A len cap], .agg #[.int .i64 s, .int .i64 a, .int .i64 l], .int .i64 n] w
      fun e w' => e = .returned (.tuple #[.agg #[.int .i64 0, .int .i64 0, .int .i64 0], .int .i64 0, .int .i64 2]) ∧ Below w.heap.size w w' := by
  have c1 := hide (fun W (hW : Below w.heap.size w W) => refChk15_any t sp A len cap S hlen hS s a l W (H.keep hW))
  clear H hS
  cases e : rgtB t sp len S s a l with
  | false =>
    rw [e, if_neg (by simp)] at c1
    clear e hb
    go_enter Try.func16, Try.ntmps16
    go_wp2_with fail
    refine (unhide c1 _ (by repeat (first | exact Below.refl _ _ | assumption | refine Below.alloc ?_ (by first | (simp; done) | (simp; omega) | omega) _ | refine Below.setCell ?_ (by first | (simp; done) | (simp; omega) | omega) _ | apply Below.drew | refine Below.trans ?_ (Below.mono (by assumption) (by first | (simp; done) | (simp; omega) | omega))))).mono ?_
    rintro e w2 ⟨rfl, hw2⟩; obtain ⟨hcw2, hfw2⟩ := bcell hw2; (try (simp only [World.size_drew, World.cell?_drew, World.frozen?_drew] at hcw2 hfw2)); have hzw2 := hw2.size; (try (simp only [World.size_alloc, World.size_setCell, World.size_drew] at hzw2)); (try (have hzw2_w_0 : w.heap.size < w2.heap.size := by omega)); (try (have hzw2_w_1 : w.heap.size + 1 < w2.heap.size := by omega)); (try (have hzw2_w_2 : w.heap.size + 1 + 1 < w2.heap.size := by omega)); (try (have hzw2_w_3 : w.heap.size + 1 + 1 + 1 < w2.heap.size := by omega)); (try (have hyw2_w : w.heap.size ≤ w2.heap.size := by omega)); (try (have hyw2_wa : w.heap.size + 1 ≤ w2.heap.size := by omega))
    have B2 : Below w.heap.size w w2 := by repeat (first | exact Below.refl _ _ | assumption | refine Below.alloc ?_ (by first | (simp; done) | (simp; omega) | omega) _ | refine Below.setCell ?_ (by first | (simp; done) | (simp; omega) | omega) _ | apply Below.drew | refine Below.trans ?_ (Below.mono (by assumption) (by first | (simp; done) | (simp; omega) | omega)))
    go_wp2
    refine bodyPost_ret (v := .tuple #[.agg #[.int .i64 0, .int .i64 0, .int .i64 0], .int .i64 0, .int .i64 2]) (by simp only [results, Try.results16]; go_simp) rfl ?_
    refine ⟨rfl, ?_⟩
    repeat (first | exact Below.refl _ _ | assumption | refine Below.alloc ?_ (by first | (simp; done) | (simp; omega) | omega) _ | refine Below.setCell ?_ (by first | (simp; done) | (simp; omega) | omega) _ | apply Below.drew | refine Below.trans ?_ (Below.mono (by assumption) (by first | (simp; done) | (simp; omega) | omega)))
  | true =>
    rw [e, if_pos rfl] at c1
    have hn : n < 1 := by
      rw [e, Bool.true_and, decide_eq_false_iff_not] at hb
      omega
    clear e hb
    go_enter Try.func16, Try.ntmps16
    go_wp2_with fail
    refine (unhide c1 _ (by repeat (first | exact Below.refl _ _ | assumption | refine Below.alloc ?_ (by first | (simp; done) | (simp; omega) | omega) _ | refine Below.setCell ?_ (by first | (simp; done) | (simp; omega) | omega) _ | apply Below.drew | refine Below.trans ?_ (Below.mono (by assumption) (by first | (simp; done) | (simp; omega) | omega))))).mono ?_
    rintro e w2 ⟨rfl, hw2⟩; obtain ⟨hcw2, hfw2⟩ := bcell hw2; (try (simp only [World.size_drew, World.cell?_drew, World.frozen?_drew] at hcw2 hfw2)); have hzw2 := hw2.size; (try (simp only [World.size_alloc, World.size_setCell, World.size_drew] at hzw2)); (try (have hzw2_w_0 : w.heap.size < w2.heap.size := by omega)); (try (have hzw2_w_1 : w.heap.size + 1 < w2.heap.size := by omega)); (try (have hzw2_w_2 : w.heap.size + 1 + 1 < w2.heap.size := by omega)); (try (have hzw2_w_3 : w.heap.size + 1 + 1 + 1 < w2.heap.size := by omega)); (try (have hyw2_w : w.heap.size ≤ w2.heap.size := by omega)); (try (have hyw2_wa : w.heap.size + 1 ≤ w2.heap.size := by omega))
    have B2 : Below w.heap.size w w2 := by repeat (first | exact Below.refl _ _ | assumption | refine Below.alloc ?_ (by first | (simp; done) | (simp; omega) | omega) _ | refine Below.setCell ?_ (by first | (simp; done) | (simp; omega) | omega) _ | apply Below.drew | refine Below.trans ?_ (Below.mono (by assumption) (by first | (simp; done) | (simp; omega) | omega)))
    go_wp2
    refine bodyPost_ret (v := .tuple #[.agg #[.int .i64 0, .int .i64 0, .int .i64 0], .int .i64 0, .int .i64 2]) (by simp only [results, Try.results16]; go_simp) rfl ?_
    refine ⟨rfl, ?_⟩
    repeat (first | exact Below.refl _ _ | assumption | refine Below.alloc ?_ (by first | (simp; done) | (simp; omega) | omega) _ | refine Below.setCell ?_ (by first | (simp; done) | (simp; omega) | omega) _ | apply Below.drew | refine Below.trans ?_ (Below.mono (by assumption) (by first | (simp; done) | (simp; omega) | omega)))

set_option maxHeartbeats 4000000 in
theorem refTake_less (t sp : Int) (A : Option Addr) (len cap : Nat) (S : Nat → ByteArray) (hlen : len ≤ 1000) (hS : ∀ i, i < len → (S i).size ≤ 100) (s a l n : Int) (hb : rgtB t sp len S s a l = true) (h1 : 1 ≤ n) (h2 : l < n) (w : World) (H : ShOk w A len S) :
    Calls Try.prog 16 #[.agg #[.int .i64 t, .int .i64 sp, .slice A len cap], .agg #[.int .i64 s, .int .i64 a, .int .i64 l], .int .i64 n] w
      fun e w' => e = .returned (.tuple #[.agg #[.int .i64 0, .int .i64 0, .int .i64 0], .int .i64 0, .int .i64 4]) ∧ Below w.heap.size w w' := by
  have c1 := hide (fun W (hW : Below w.heap.size w W) => refChk15_any t sp A len cap S hlen hS s a l W (H.keep hW))
  rw [hb, if_pos rfl] at c1
  clear H hS hb
  go_enter Try.func16, Try.ntmps16
  go_wp2_with fail
  refine (unhide c1 _ (by repeat (first | exact Below.refl _ _ | assumption | refine Below.alloc ?_ (by first | (simp; done) | (simp; omega) | omega) _ | refine Below.setCell ?_ (by first | (simp; done) | (simp; omega) | omega) _ | apply Below.drew | refine Below.trans ?_ (Below.mono (by assumption) (by first | (simp; done) | (simp; omega) | omega))))).mono ?_
  rintro e w2 ⟨rfl, hw2⟩; obtain ⟨hcw2, hfw2⟩ := bcell hw2; (try (simp only [World.size_drew, World.cell?_drew, World.frozen?_drew] at hcw2 hfw2)); have hzw2 := hw2.size; (try (simp only [World.size_alloc, World.size_setCell, World.size_drew] at hzw2)); (try (have hzw2_w_0 : w.heap.size < w2.heap.size := by omega)); (try (have hzw2_w_1 : w.heap.size + 1 < w2.heap.size := by omega)); (try (have hzw2_w_2 : w.heap.size + 1 + 1 < w2.heap.size := by omega)); (try (have hzw2_w_3 : w.heap.size + 1 + 1 + 1 < w2.heap.size := by omega)); (try (have hyw2_w : w.heap.size ≤ w2.heap.size := by omega)); (try (have hyw2_wa : w.heap.size + 1 ≤ w2.heap.size := by omega))
  have B2 : Below w.heap.size w w2 := by repeat (first | exact Below.refl _ _ | assumption | refine Below.alloc ?_ (by first | (simp; done) | (simp; omega) | omega) _ | refine Below.setCell ?_ (by first | (simp; done) | (simp; omega) | omega) _ | apply Below.drew | refine Below.trans ?_ (Below.mono (by assumption) (by first | (simp; done) | (simp; omega) | omega)))
  go_wp2
  refine bodyPost_ret (v := .tuple #[.agg #[.int .i64 0, .int .i64 0, .int .i64 0], .int .i64 0, .int .i64 4]) (by simp only [results, Try.results16]; go_simp) rfl ?_
  refine ⟨rfl, ?_⟩
  repeat (first | exact Below.refl _ _ | assumption | refine Below.alloc ?_ (by first | (simp; done) | (simp; omega) | omega) _ | refine Below.setCell ?_ (by first | (simp; done) | (simp; omega) | omega) _ | apply Below.drew | refine Below.trans ?_ (Below.mono (by assumption) (by first | (simp; done) | (simp; omega) | omega)))

set_option maxHeartbeats 4000000 in
theorem refTake_ok (t sp : Int) (A : Option Addr) (len cap : Nat) (S : Nat → ByteArray) (hlen : len ≤ 1000) (hS : ∀ i, i < len → (S i).size ≤ 100) (s a l n : Int) (hb : rgtB t sp len S s a l = true) (h1 : 1 ≤ n) (h2 : n ≤ l) (w : World) (H : ShOk w A len S) :
    Calls Try.prog 16 #[.agg #[.int .i64 t, .int .i64 sp, .slice A len cap], .agg #[.int .i64 s, .int .i64 a, .int .i64 l], .int .i64 n] w
      fun e w' => e = .returned (.tuple #[.agg #[.int .i64 s, .int .i64 (rsA (a + n) (l - n)), .int .i64 (l - n)], .int .i64 a, .int .i64 0]) ∧ Below w.heap.size w w' := by
  have c1 := hide (fun W (hW : Below w.heap.size w W) => refChk15_any t sp A len cap S hlen hS s a l W (H.keep hW))
  have hw := (rgtB_iff.1 hb).2.2.2.2 (by omega)
  have hbs := bas_le hw.1.1 hw.1.2.1 hw.2.1
  have hsp := hw.1.2.1
  obtain ⟨_, _, q1, q2, q3, q4⟩ := hw
  have b1 : 5 ≤ a := by omega
  have b2 : a ≤ 10000 := by omega
  have b3 : l ≤ 4096 := by omega
  rw [hb, if_pos rfl] at c1
  clear H hS hb hbs hsp q1 q2 q3 q4
  have c2 := hide (fun W => refRest_any s (a + n) (l - n) W)
  generalize rsA (a + n) (l - n) = Z at c2 ⊢
  go_enter Try.func16, Try.ntmps16
  go_wp2_with fail
  refine (unhide c1 _ (by repeat (first | exact Below.refl _ _ | assumption | refine Below.alloc ?_ (by first | (simp; done) | (simp; omega) | omega) _ | refine Below.setCell ?_ (by first | (simp; done) | (simp; omega) | omega) _ | apply Below.drew | refine Below.trans ?_ (Below.mono (by assumption) (by first | (simp; done) | (simp; omega) | omega))))).mono ?_
  rintro e w2 ⟨rfl, hw2⟩; obtain ⟨hcw2, hfw2⟩ := bcell hw2; (try (simp only [World.size_drew, World.cell?_drew, World.frozen?_drew] at hcw2 hfw2)); have hzw2 := hw2.size; (try (simp only [World.size_alloc, World.size_setCell, World.size_drew] at hzw2)); (try (have hzw2_w_0 : w.heap.size < w2.heap.size := by omega)); (try (have hzw2_w_1 : w.heap.size + 1 < w2.heap.size := by omega)); (try (have hzw2_w_2 : w.heap.size + 1 + 1 < w2.heap.size := by omega)); (try (have hzw2_w_3 : w.heap.size + 1 + 1 + 1 < w2.heap.size := by omega)); (try (have hyw2_w : w.heap.size ≤ w2.heap.size := by omega)); (try (have hyw2_wa : w.heap.size + 1 ≤ w2.heap.size := by omega))
  have B2 : Below w.heap.size w w2 := by repeat (first | exact Below.refl _ _ | assumption | refine Below.alloc ?_ (by first | (simp; done) | (simp; omega) | omega) _ | refine Below.setCell ?_ (by first | (simp; done) | (simp; omega) | omega) _ | apply Below.drew | refine Below.trans ?_ (Below.mono (by assumption) (by first | (simp; done) | (simp; omega) | omega)))
  go_upto_region 5 with fail
  have f0 : w2.cell? ⟨w.heap.size + 1, 0, none⟩ = some (.int .i64 s) := by go_simp
  have f1 : w2.cell? ⟨w.heap.size + 1, 1, none⟩ = some (.int .i64 a) := by go_simp
  have f2 : w2.cell? ⟨w.heap.size + 1, 2, none⟩ = some (.int .i64 l) := by go_simp
  have f4 : w2.cell? ⟨w.heap.size + 1 + 1, 0, none⟩ = some (.int .i64 0) := by go_simp
  have f5 : w2.cell? ⟨w.heap.size + 1 + 1, 1, none⟩ = some (.int .i64 0) := by go_simp
  have f6 : w2.cell? ⟨w.heap.size + 1 + 1, 2, none⟩ = some (.int .i64 0) := by go_simp
  have f7 : w2.frozen? ⟨w.heap.size + 1 + 1, 0, none⟩ = false := by go_simp
  have f8 : w2.frozen? ⟨w.heap.size + 1 + 1, 1, none⟩ = false := by go_simp
  have f9 : w2.frozen? ⟨w.heap.size + 1 + 1, 2, none⟩ = false := by go_simp
  clear hcw2 hfw2
  have e1 : IntKind.i64.wrap (a + n) = a + n := IntWalk.i64_in _ (by omega)
  have e2 : IntKind.i64.wrap (l - n) = l - n := IntWalk.i64_in _ (by omega)
  have h3le : w.heap.size ≤ w.heap.size + 1 + 1 := by omega
  have tst : Below w.heap.size w w2.drew := by repeat (first | exact Below.refl _ _ | assumption | refine Below.alloc ?_ (by first | (simp; done) | (simp; omega) | omega) _ | refine Below.setCell ?_ (by first | (simp; done) | (simp; omega) | omega) _ | apply Below.drew | refine Below.trans ?_ (Below.mono (by assumption) (by first | (simp; done) | (simp; omega) | omega)))
  go_region_held3 (fun U => Below w.heap.size w U ∧ U.cell? ⟨w.heap.size + 1, 0, none⟩ = some (.int .i64 s) ∧ U.cell? ⟨w.heap.size + 1, 1, none⟩ = some (.int .i64 a) ∧ U.cell? ⟨w.heap.size + 1, 2, none⟩ = some (.int .i64 l)) (((repeat' apply And.intro) <;> (first | assumption | exact ((g0.setCell (p := ⟨w.heap.size + 1 + 1, 0, none⟩) h3le _).setCell (p := ⟨w.heap.size + 1 + 1, 1, none⟩) h3le _).setCell (p := ⟨w.heap.size + 1 + 1, 2, none⟩) h3le _ | (go_simp; done)))) ((go_at_call 28; refine (unhide c2 _).mono ?_; rintro e w3 ⟨rfl, hw3⟩; obtain ⟨hcw3, hfw3⟩ := bcell hw3; (try (simp only [World.size_drew, World.cell?_drew, World.frozen?_drew] at hcw3 hfw3)); have hzw3 := hw3.size; (try (simp only [World.size_alloc, World.size_setCell, World.size_drew] at hzw3)); (try (have hzw3_w_0 : w.heap.size < w3.heap.size := by omega)); (try (have hzw3_w_1 : w.heap.size + 1 < w3.heap.size := by omega)); (try (have hzw3_w_2 : w.heap.size + 1 + 1 < w3.heap.size := by omega)); (try (have hzw3_w_3 : w.heap.size + 1 + 1 + 1 < w3.heap.size := by omega)); (try (have hyw3_w : w.heap.size ≤ w3.heap.size := by omega)); (try (have hyw3_wa : w.heap.size + 1 ≤ w3.heap.size := by omega)); (try (have hzw3_w2_0 : w2.heap.size < w3.heap.size := by omega)); (try (have hzw3_w2_1 : w2.heap.size + 1 < w3.heap.size := by omega)); (try (have hzw3_w2_2 : w2.heap.size + 1 + 1 < w3.heap.size := by omega)); (try (have hzw3_w2_3 : w2.heap.size + 1 + 1 + 1 < w3.heap.size := by omega)); (try (have hyw3_w2 : w2.heap.size ≤ w3.heap.size := by omega)); (try (have hyw3_w2a : w2.heap.size + 1 ≤ w3.heap.size := by omega)); have g0 : Below w.heap.size w w3 := tst.trans (hw3.mono tst.size); have g1 : w3.cell? ⟨w.heap.size + 1, 0, none⟩ = some (.int .i64 s) := (hw3.cell (p := ⟨w.heap.size + 1, 0, none⟩) (by show w.heap.size + 1 < _; simp only [World.size_drew]; omega)).trans f0; have g2 : w3.cell? ⟨w.heap.size + 1, 1, none⟩ = some (.int .i64 a) := (hw3.cell (p := ⟨w.heap.size + 1, 1, none⟩) (by show w.heap.size + 1 < _; simp only [World.size_drew]; omega)).trans f1; have g3 : w3.cell? ⟨w.heap.size + 1, 2, none⟩ = some (.int .i64 l) := (hw3.cell (p := ⟨w.heap.size + 1, 2, none⟩) (by show w.heap.size + 1 < _; simp only [World.size_drew]; omega)).trans f2))
  all_goals
    clear e1 e2
    go_wp2
    refine bodyPost_ret (v := .tuple #[.agg #[.int .i64 s, .int .i64 Z, .int .i64 (l - n)], .int .i64 a, .int .i64 0]) (by simp only [results, Try.results16]; go_simp) rfl ?_
    exact ⟨rfl, ((g0.setCell (p := ⟨w.heap.size + 1 + 1, 0, none⟩) h3le _).setCell (p := ⟨w.heap.size + 1 + 1, 1, none⟩) h3le _).setCell (p := ⟨w.heap.size + 1 + 1, 2, none⟩) h3le _⟩

set_option maxHeartbeats 4000000 in
theorem give_any (t sp : Int) (A : Option Addr) (len cap : Nat) (S : Nat → ByteArray) (hlen : len ≤ 1000) (hS : ∀ i, i < len → (S i).size ≤ 100) (s a l e ca cg n : Int) (ha : a ≤ 9223372036854775807) (hca : ca ≤ 9223372036854775807) (w : World) (H : ShOk w A len S) (R : Bool) (hR : Hid (allB (gvR t sp len S s a l e ca cg n) 4 = R))
    (vs va vl ve : Int) (hv : (R = false ∧ vs = 0 ∧ va = 0 ∧ vl = 0 ∧ ve = 2) ∨ (R = true ∧ cg = n ∧ vs = s ∧ va = a ∧ vl = l ∧ ve = 0) ∨ (R = true ∧ cg ≠ n ∧ (0 ≤ ca + n ∧ ca + n ≤ 100000 ∧ 0 ≤ cg - n ∧ cg - n ≤ 100000) ∧ vs = s ∧ va = rsA (ca + n) (cg - n) ∧ vl = cg - n ∧ ve = 0)) :
    Calls Try.prog 19 #[.agg #[.int .i64 t, .int .i64 sp, .slice A len cap], .agg #[.int .i64 s, .int .i64 a, .int .i64 l], .agg #[.int .i64 e, .int .i64 ca, .int .i64 cg], .int .i64 n] w
      fun ed w' => ed = .returned (.tuple #[.agg #[.int .i64 vs, .int .i64 va, .int .i64 vl], .int .i64 ve]) ∧ Below w.heap.size w w' := by
  have c1 := hide (fun (g q5 q6 q7 q10 : Nat) W (hW : Below w.heap.size w W) => giveAll_any t sp A len cap S hlen hS s a l e ca cg n ha hca g q5 q6 q7 q10 W (H.keep hW))
  rw [unhide hR] at c1
  clear H hS hR ha hca
  rcases hv with ⟨rfl, rfl, rfl, rfl, rfl⟩ | ⟨rfl, hcg, rfl, rfl, rfl, rfl⟩ | ⟨rfl, hcg, ⟨p1, p2, p3, p4⟩, rfl, rfl, rfl, rfl⟩
  · go_enter Try.func19, Try.ntmps19
    go_wp2_with fail
    refine (unhide c1 (w.heap.size + 1 + 1 + 1 + 1 + 1 + 1) (w.heap.size + 1) (w.heap.size + 1 + 1) (w.heap.size + 1 + 1 + 1) (w.heap.size + 1 + 1 + 1 + 1 + 1) _ (by repeat (first | exact Below.refl _ _ | assumption | refine Below.alloc ?_ (by first | (simp; done) | (simp; omega) | omega) _ | refine Below.setCell ?_ (by first | (simp; done) | (simp; omega) | omega) _ | apply Below.drew | refine Below.trans ?_ (Below.mono (by assumption) (by first | (simp; done) | (simp; omega) | omega)))) (by simp) (by first | (simp; done) | (simp; omega)) (by first | (simp; done) | (simp; omega)) (by first | (simp; done) | (simp; omega)) (by first | (simp; done) | (simp; omega)) (fun i hi => by
      match i, hi with
      | 0, _ => (show _ = some (Value.func (Fn.func 23) #[.agg #[.int .i64 s, .int .i64 a, .int .i64 l, .int .i64 t, .int .i64 sp, .slice A len cap]] #[]); go_simp)
      | 1, _ => (show _ = some (Value.func (Fn.func 29) #[] #[.pointer (some ⟨w.heap.size + 1 + 1 + 1, 0, none⟩), .pointer (some ⟨w.heap.size + 1 + 1, 0, none⟩)]); go_simp)
      | 2, _ => (show _ = some (Value.func (Fn.func 30) #[] #[.pointer (some ⟨w.heap.size + 1 + 1 + 1 + 1 + 1, 0, none⟩), .pointer (some ⟨w.heap.size + 1 + 1, 0, none⟩)]); go_simp)
      | 3, _ => (show _ = some (Value.func (Fn.func 32) #[] #[.pointer (some ⟨w.heap.size + 1 + 1, 0, none⟩), .pointer (some ⟨w.heap.size + 1 + 1 + 1, 0, none⟩), .pointer (some ⟨w.heap.size + 1, 0, none⟩)]); go_simp)) (by go_simp) (by go_simp) (by go_simp) (by go_simp) (by go_simp) (by go_simp) (by go_simp) (by go_simp) (by go_simp) (by go_simp) (by go_simp)).mono ?_
    rintro e w2 ⟨rfl, hw2⟩; obtain ⟨hcw2, hfw2⟩ := bcell hw2; (try (simp only [World.size_drew, World.cell?_drew, World.frozen?_drew] at hcw2 hfw2)); have hzw2 := hw2.size; (try (simp only [World.size_alloc, World.size_setCell, World.size_drew] at hzw2)); (try (have hzw2_w_0 : w.heap.size < w2.heap.size := by omega)); (try (have hzw2_w_1 : w.heap.size + 1 < w2.heap.size := by omega)); (try (have hzw2_w_2 : w.heap.size + 1 + 1 < w2.heap.size := by omega)); (try (have hzw2_w_3 : w.heap.size + 1 + 1 + 1 < w2.heap.size := by omega)); (try (have hyw2_w : w.heap.size ≤ w2.heap.size := by omega)); (try (have hyw2_wa : w.heap.size + 1 ≤ w2.heap.size := by omega))
    have B2 : Below w.heap.size w w2 := by repeat (first | exact Below.refl _ _ | assumption | refine Below.alloc ?_ (by first | (simp; done) | (simp; omega) | omega) _ | refine Below.setCell ?_ (by first | (simp; done) | (simp; omega) | omega) _ | apply Below.drew | refine Below.trans ?_ (Below.mono (by assumption) (by first | (simp; done) | (simp; omega) | omega)))
    go_wp2
    refine bodyPost_ret (v := .tuple #[.agg #[.int .i64 0, .int .i64 0, .int .i64 0], .int .i64 2]) (by simp only [results, Try.results19]; go_simp) rfl ?_
    refine ⟨rfl, ?_⟩
    repeat (first | exact Below.refl _ _ | assumption | refine Below.alloc ?_ (by first | (simp; done) | (simp; omega) | omega) _ | refine Below.setCell ?_ (by first | (simp; done) | (simp; omega) | omega) _ | apply Below.drew | refine Below.trans ?_ (Below.mono (by assumption) (by first | (simp; done) | (simp; omega) | omega)))
  · have hcb : (cg == n) = true := by simpa using hcg
    clear hcg
    go_enter Try.func19, Try.ntmps19
    go_wp2_with fail
    refine (unhide c1 (w.heap.size + 1 + 1 + 1 + 1 + 1 + 1) (w.heap.size + 1) (w.heap.size + 1 + 1) (w.heap.size + 1 + 1 + 1) (w.heap.size + 1 + 1 + 1 + 1 + 1) _ (by repeat (first | exact Below.refl _ _ | assumption | refine Below.alloc ?_ (by first | (simp; done) | (simp; omega) | omega) _ | refine Below.setCell ?_ (by first | (simp; done) | (simp; omega) | omega) _ | apply Below.drew | refine Below.trans ?_ (Below.mono (by assumption) (by first | (simp; done) | (simp; omega) | omega)))) (by simp) (by first | (simp; done) | (simp; omega)) (by first | (simp; done) | (simp; omega)) (by first | (simp; done) | (simp; omega)) (by first | (simp; done) | (simp; omega)) (fun i hi => by
      match i, hi with
      | 0, _ => (show _ = some (Value.func (Fn.func 23) #[.agg #[.int .i64 vs, .int .i64 va, .int .i64 vl, .int .i64 t, .int .i64 sp, .slice A len cap]] #[]); go_simp)
      | 1, _ => (show _ = some (Value.func (Fn.func 29) #[] #[.pointer (some ⟨w.heap.size + 1 + 1 + 1, 0, none⟩), .pointer (some ⟨w.heap.size + 1 + 1, 0, none⟩)]); go_simp)
      | 2, _ => (show _ = some (Value.func (Fn.func 30) #[] #[.pointer (some ⟨w.heap.size + 1 + 1 + 1 + 1 + 1, 0, none⟩), .pointer (some ⟨w.heap.size + 1 + 1, 0, none⟩)]); go_simp)
      | 3, _ => (show _ = some (Value.func (Fn.func 32) #[] #[.pointer (some ⟨w.heap.size + 1 + 1, 0, none⟩), .pointer (some ⟨w.heap.size + 1 + 1 + 1, 0, none⟩), .pointer (some ⟨w.heap.size + 1, 0, none⟩)]); go_simp)) (by go_simp) (by go_simp) (by go_simp) (by go_simp) (by go_simp) (by go_simp) (by go_simp) (by go_simp) (by go_simp) (by go_simp) (by go_simp)).mono ?_
    rintro e w2 ⟨rfl, hw2⟩; obtain ⟨hcw2, hfw2⟩ := bcell hw2; (try (simp only [World.size_drew, World.cell?_drew, World.frozen?_drew] at hcw2 hfw2)); have hzw2 := hw2.size; (try (simp only [World.size_alloc, World.size_setCell, World.size_drew] at hzw2)); (try (have hzw2_w_0 : w.heap.size < w2.heap.size := by omega)); (try (have hzw2_w_1 : w.heap.size + 1 < w2.heap.size := by omega)); (try (have hzw2_w_2 : w.heap.size + 1 + 1 < w2.heap.size := by omega)); (try (have hzw2_w_3 : w.heap.size + 1 + 1 + 1 < w2.heap.size := by omega)); (try (have hyw2_w : w.heap.size ≤ w2.heap.size := by omega)); (try (have hyw2_wa : w.heap.size + 1 ≤ w2.heap.size := by omega))
    have B2 : Below w.heap.size w w2 := by repeat (first | exact Below.refl _ _ | assumption | refine Below.alloc ?_ (by first | (simp; done) | (simp; omega) | omega) _ | refine Below.setCell ?_ (by first | (simp; done) | (simp; omega) | omega) _ | apply Below.drew | refine Below.trans ?_ (Below.mono (by assumption) (by first | (simp; done) | (simp; omega) | omega)))
    have hq1 : w.heap.size + 1 + 1 + 1 + 1 < w2.heap.size := by have := hw2.size; simp at this; omega
    have hq2 : w.heap.size + 1 + 1 + 1 + 1 + 1 < w2.heap.size := by have := hw2.size; simp at this; omega
    go_wp2
    refine bodyPost_ret (v := .tuple #[.agg #[.int .i64 vs, .int .i64 va, .int .i64 vl], .int .i64 0]) (by simp only [results, Try.results19]; go_simp) rfl ?_
    refine ⟨rfl, ?_⟩
    repeat (first | exact Below.refl _ _ | assumption | refine Below.alloc ?_ (by first | (simp; done) | (simp; omega) | omega) _ | refine Below.setCell ?_ (by first | (simp; done) | (simp; omega) | omega) _ | apply Below.drew | refine Below.trans ?_ (Below.mono (by assumption) (by first | (simp; done) | (simp; omega) | omega)))
  · have hcb : (cg == n) = false := by simpa using hcg
    have c2 := hide (fun W => rest_any vs a l t sp A len cap (ca + n) (cg - n) W)
    generalize rsA (ca + n) (cg - n) = Z at c2 ⊢
    clear hcg
    go_enter Try.func19, Try.ntmps19
    go_wp2_with fail
    refine (unhide c1 (w.heap.size + 1 + 1 + 1 + 1 + 1 + 1) (w.heap.size + 1) (w.heap.size + 1 + 1) (w.heap.size + 1 + 1 + 1) (w.heap.size + 1 + 1 + 1 + 1 + 1) _ (by repeat (first | exact Below.refl _ _ | assumption | refine Below.alloc ?_ (by first | (simp; done) | (simp; omega) | omega) _ | refine Below.setCell ?_ (by first | (simp; done) | (simp; omega) | omega) _ | apply Below.drew | refine Below.trans ?_ (Below.mono (by assumption) (by first | (simp; done) | (simp; omega) | omega)))) (by simp) (by first | (simp; done) | (simp; omega)) (by first | (simp; done) | (simp; omega)) (by first | (simp; done) | (simp; omega)) (by first | (simp; done) | (simp; omega)) (fun i hi => by
      match i, hi with
      | 0, _ => (show _ = some (Value.func (Fn.func 23) #[.agg #[.int .i64 vs, .int .i64 a, .int .i64 l, .int .i64 t, .int .i64 sp, .slice A len cap]] #[]); go_simp)
      | 1, _ => (show _ = some (Value.func (Fn.func 29) #[] #[.pointer (some ⟨w.heap.size + 1 + 1 + 1, 0, none⟩), .pointer (some ⟨w.heap.size + 1 + 1, 0, none⟩)]); go_simp)
      | 2, _ => (show _ = some (Value.func (Fn.func 30) #[] #[.pointer (some ⟨w.heap.size + 1 + 1 + 1 + 1 + 1, 0, none⟩), .pointer (some ⟨w.heap.size + 1 + 1, 0, none⟩)]); go_simp)
      | 3, _ => (show _ = some (Value.func (Fn.func 32) #[] #[.pointer (some ⟨w.heap.size + 1 + 1, 0, none⟩), .pointer (some ⟨w.heap.size + 1 + 1 + 1, 0, none⟩), .pointer (some ⟨w.heap.size + 1, 0, none⟩)]); go_simp)) (by go_simp) (by go_simp) (by go_simp) (by go_simp) (by go_simp) (by go_simp) (by go_simp) (by go_simp) (by go_simp) (by go_simp) (by go_simp)).mono ?_
    rintro e w2 ⟨rfl, hw2⟩; obtain ⟨hcw2, hfw2⟩ := bcell hw2; (try (simp only [World.size_drew, World.cell?_drew, World.frozen?_drew] at hcw2 hfw2)); have hzw2 := hw2.size; (try (simp only [World.size_alloc, World.size_setCell, World.size_drew] at hzw2)); (try (have hzw2_w_0 : w.heap.size < w2.heap.size := by omega)); (try (have hzw2_w_1 : w.heap.size + 1 < w2.heap.size := by omega)); (try (have hzw2_w_2 : w.heap.size + 1 + 1 < w2.heap.size := by omega)); (try (have hzw2_w_3 : w.heap.size + 1 + 1 + 1 < w2.heap.size := by omega)); (try (have hyw2_w : w.heap.size ≤ w2.heap.size := by omega)); (try (have hyw2_wa : w.heap.size + 1 ≤ w2.heap.size := by omega))
    have B2 : Below w.heap.size w w2 := by repeat (first | exact Below.refl _ _ | assumption | refine Below.alloc ?_ (by first | (simp; done) | (simp; omega) | omega) _ | refine Below.setCell ?_ (by first | (simp; done) | (simp; omega) | omega) _ | apply Below.drew | refine Below.trans ?_ (Below.mono (by assumption) (by first | (simp; done) | (simp; omega) | omega)))
    have hq1 : w.heap.size + 1 + 1 + 1 + 1 < w2.heap.size := by have := hw2.size; simp at this; omega
    have hq2 : w.heap.size + 1 + 1 + 1 + 1 + 1 < w2.heap.size := by have := hw2.size; simp at this; omega
    go_wp2_with fail
    refine (unhide c2 _).mono ?_
    rintro e w3 ⟨rfl, hw3⟩; obtain ⟨hcw3, hfw3⟩ := bcell hw3; (try (simp only [World.size_drew, World.cell?_drew, World.frozen?_drew] at hcw3 hfw3)); have hzw3 := hw3.size; (try (simp only [World.size_alloc, World.size_setCell, World.size_drew] at hzw3)); (try (have hzw3_w_0 : w.heap.size < w3.heap.size := by omega)); (try (have hzw3_w_1 : w.heap.size + 1 < w3.heap.size := by omega)); (try (have hzw3_w_2 : w.heap.size + 1 + 1 < w3.heap.size := by omega)); (try (have hzw3_w_3 : w.heap.size + 1 + 1 + 1 < w3.heap.size := by omega)); (try (have hyw3_w : w.heap.size ≤ w3.heap.size := by omega)); (try (have hyw3_wa : w.heap.size + 1 ≤ w3.heap.size := by omega)); (try (have hzw3_w2_0 : w2.heap.size < w3.heap.size := by omega)); (try (have hzw3_w2_1 : w2.heap.size + 1 < w3.heap.size := by omega)); (try (have hzw3_w2_2 : w2.heap.size + 1 + 1 < w3.heap.size := by omega)); (try (have hzw3_w2_3 : w2.heap.size + 1 + 1 + 1 < w3.heap.size := by omega)); (try (have hyw3_w2 : w2.heap.size ≤ w3.heap.size := by omega)); (try (have hyw3_w2a : w2.heap.size + 1 ≤ w3.heap.size := by omega))
    have hq3 : w.heap.size + 1 + 1 + 1 + 1 < w3.heap.size := by have := hw3.size; omega
    have B3 : Below w.heap.size w w3 := B2.trans (hw3.mono B2.size)
    go_wp2
    refine bodyPost_ret (v := .tuple #[.agg #[.int .i64 vs, .int .i64 Z, .int .i64 (cg - n)], .int .i64 0]) (by simp only [results, Try.results19]; go_simp) rfl ?_
    refine ⟨rfl, ?_⟩
    repeat (first | exact Below.refl _ _ | assumption | refine Below.alloc ?_ (by first | (simp; done) | (simp; omega) | omega) _ | refine Below.setCell ?_ (by first | (simp; done) | (simp; omega) | omega) _ | apply Below.drew | refine Below.trans ?_ (Below.mono (by assumption) (by first | (simp; done) | (simp; omega) | omega)))

/-- Whether Give goes well. -/
theorem gv_iff {t sp : Int} {len : Nat} {S : Nat → ByteArray} {s a l e ca cg n : Int} : allB (gvR t sp len S s a l e ca cg n) 4 = true ↔ rgt t sp len S s a l ∧ (1 ≤ n ∧ e = 0 ∧ n ≤ cg) ∧ wit t sp len S s ca cg ∧ (cg = n ∨ l = 0) := by
  simp only [allB, gvR, Bool.and_eq_true, true_and, rgtB_iff, witB_iff, decide_eq_true_eq]
  constructor
  · rintro ⟨⟨⟨h1, h2⟩, h3⟩, h4⟩; exact ⟨h1, h2, h3, h4⟩
  · rintro ⟨h1, h2, h3, h4⟩; exact ⟨⟨⟨h1, h2⟩, h3⟩, h4⟩

set_option maxHeartbeats 4000000 in
theorem refGive_bad (t sp : Int) (A : Option Addr) (len cap : Nat) (S : Nat → ByteArray) (hlen : len ≤ 1000) (hS : ∀ i, i < len → (S i).size ≤ 100) (s a l e ca cg n : Int) (hb : ¬ (rgt t sp len S s a l ∧ (1 ≤ n ∧ e = 0 ∧ n ≤ cg) ∧ wit t sp len S s ca cg ∧ (cg = n ∨ l = 0))) (w : World) (H : ShOk w A len S) :
    Calls Try.prog 20 #[.agg #[.int .i64 t, .int .i64 sp, .slice A len cap], .agg #[.int .i64 s, .int .i64 a, .int .i64 l], .agg #[.int .i64 e, .int .i64 ca, .int .i64 cg], .int .i64 n] w
      fun ed w' => ed = .returned (.tuple #[.agg #[.int .i64 0, .int .i64 0, .int .i64 0], .int .i64 2]) ∧ Below w.heap.size w w' := by
  have c1 := hide (fun W (hW : Below w.heap.size w W) => refChk15_any t sp A len cap S hlen hS s a l W (H.keep hW))
  clear H hS
  by_cases er : rgt t sp len S s a l
  · rw [if_pos (rgtB_iff.2 er)] at c1
    by_cases h1 : n < 1
    · clear hb
      go_enter Try.func20, Try.ntmps20
      go_wp2_with fail
      refine (unhide c1 _ (by repeat (first | exact Below.refl _ _ | assumption | refine Below.alloc ?_ (by first | (simp; done) | (simp; omega) | omega) _ | refine Below.setCell ?_ (by first | (simp; done) | (simp; omega) | omega) _ | apply Below.drew | refine Below.trans ?_ (Below.mono (by assumption) (by first | (simp; done) | (simp; omega) | omega))))).mono ?_
      rintro e w2 ⟨rfl, hw2⟩; obtain ⟨hcw2, hfw2⟩ := bcell hw2; (try (simp only [World.size_drew, World.cell?_drew, World.frozen?_drew] at hcw2 hfw2)); have hzw2 := hw2.size; (try (simp only [World.size_alloc, World.size_setCell, World.size_drew] at hzw2)); (try (have hzw2_w_0 : w.heap.size < w2.heap.size := by omega)); (try (have hzw2_w_1 : w.heap.size + 1 < w2.heap.size := by omega)); (try (have hzw2_w_2 : w.heap.size + 1 + 1 < w2.heap.size := by omega)); (try (have hzw2_w_3 : w.heap.size + 1 + 1 + 1 < w2.heap.size := by omega)); (try (have hyw2_w : w.heap.size ≤ w2.heap.size := by omega)); (try (have hyw2_wa : w.heap.size + 1 ≤ w2.heap.size := by omega))
      have B2 : Below w.heap.size w w2 := by repeat (first | exact Below.refl _ _ | assumption | refine Below.alloc ?_ (by first | (simp; done) | (simp; omega) | omega) _ | refine Below.setCell ?_ (by first | (simp; done) | (simp; omega) | omega) _ | apply Below.drew | refine Below.trans ?_ (Below.mono (by assumption) (by first | (simp; done) | (simp; omega) | omega)))
      go_wp2
      refine bodyPost_ret (v := .tuple #[.agg #[.int .i64 0, .int .i64 0, .int .i64 0], .int .i64 2]) (by simp only [results, Try.results20]; go_simp) rfl ?_
      refine ⟨rfl, ?_⟩
      repeat (first | exact Below.refl _ _ | assumption | refine Below.alloc ?_ (by first | (simp; done) | (simp; omega) | omega) _ | refine Below.setCell ?_ (by first | (simp; done) | (simp; omega) | omega) _ | apply Below.drew | refine Below.trans ?_ (Below.mono (by assumption) (by first | (simp; done) | (simp; omega) | omega)))
    by_cases h2 : e = 0
    · have heb : (e != 0) = false := by simpa using h2
      by_cases h3 : cg < n
      · clear hb
        subst h2
        go_enter Try.func20, Try.ntmps20
        go_wp2_with fail
        refine (unhide c1 _ (by repeat (first | exact Below.refl _ _ | assumption | refine Below.alloc ?_ (by first | (simp; done) | (simp; omega) | omega) _ | refine Below.setCell ?_ (by first | (simp; done) | (simp; omega) | omega) _ | apply Below.drew | refine Below.trans ?_ (Below.mono (by assumption) (by first | (simp; done) | (simp; omega) | omega))))).mono ?_
        rintro e w2 ⟨rfl, hw2⟩; obtain ⟨hcw2, hfw2⟩ := bcell hw2; (try (simp only [World.size_drew, World.cell?_drew, World.frozen?_drew] at hcw2 hfw2)); have hzw2 := hw2.size; (try (simp only [World.size_alloc, World.size_setCell, World.size_drew] at hzw2)); (try (have hzw2_w_0 : w.heap.size < w2.heap.size := by omega)); (try (have hzw2_w_1 : w.heap.size + 1 < w2.heap.size := by omega)); (try (have hzw2_w_2 : w.heap.size + 1 + 1 < w2.heap.size := by omega)); (try (have hzw2_w_3 : w.heap.size + 1 + 1 + 1 < w2.heap.size := by omega)); (try (have hyw2_w : w.heap.size ≤ w2.heap.size := by omega)); (try (have hyw2_wa : w.heap.size + 1 ≤ w2.heap.size := by omega))
        have B2 : Below w.heap.size w w2 := by repeat (first | exact Below.refl _ _ | assumption | refine Below.alloc ?_ (by first | (simp; done) | (simp; omega) | omega) _ | refine Below.setCell ?_ (by first | (simp; done) | (simp; omega) | omega) _ | apply Below.drew | refine Below.trans ?_ (Below.mono (by assumption) (by first | (simp; done) | (simp; omega) | omega)))
        go_wp2
        refine bodyPost_ret (v := .tuple #[.agg #[.int .i64 0, .int .i64 0, .int .i64 0], .int .i64 2]) (by simp only [results, Try.results20]; go_simp) rfl ?_
        refine ⟨rfl, ?_⟩
        repeat (first | exact Below.refl _ _ | assumption | refine Below.alloc ?_ (by first | (simp; done) | (simp; omega) | omega) _ | refine Below.setCell ?_ (by first | (simp; done) | (simp; omega) | omega) _ | apply Below.drew | refine Below.trans ?_ (Below.mono (by assumption) (by first | (simp; done) | (simp; omega) | omega)))
      have c2 := hide (fun W => refWithin_any t sp A len cap S s ca cg er.1 er.2.1 W)
      by_cases h4 : wit t sp len S s ca cg
      · rw [witB_iff.2 h4] at c2
        have h5 : n < cg := by
          rcases Int.lt_trichotomy n cg with h | h | h
          · exact h
          · exact absurd ⟨er, ⟨by omega, h2, by omega⟩, h4, .inl h.symm⟩ hb
          · omega
        have h6 : 0 < l := by
          have := er.2.2.1
          rcases Int.lt_trichotomy l 0 with h | h | h
          · omega
          · exact absurd ⟨er, ⟨by omega, h2, by omega⟩, h4, .inr h⟩ hb
          · exact h
        subst h2
        clear hb er h4
        go_enter Try.func20, Try.ntmps20
        go_wp2_with fail
        refine (unhide c1 _ (by repeat (first | exact Below.refl _ _ | assumption | refine Below.alloc ?_ (by first | (simp; done) | (simp; omega) | omega) _ | refine Below.setCell ?_ (by first | (simp; done) | (simp; omega) | omega) _ | apply Below.drew | refine Below.trans ?_ (Below.mono (by assumption) (by first | (simp; done) | (simp; omega) | omega))))).mono ?_
        rintro e w2 ⟨rfl, hw2⟩; obtain ⟨hcw2, hfw2⟩ := bcell hw2; (try (simp only [World.size_drew, World.cell?_drew, World.frozen?_drew] at hcw2 hfw2)); have hzw2 := hw2.size; (try (simp only [World.size_alloc, World.size_setCell, World.size_drew] at hzw2)); (try (have hzw2_w_0 : w.heap.size < w2.heap.size := by omega)); (try (have hzw2_w_1 : w.heap.size + 1 < w2.heap.size := by omega)); (try (have hzw2_w_2 : w.heap.size + 1 + 1 < w2.heap.size := by omega)); (try (have hzw2_w_3 : w.heap.size + 1 + 1 + 1 < w2.heap.size := by omega)); (try (have hyw2_w : w.heap.size ≤ w2.heap.size := by omega)); (try (have hyw2_wa : w.heap.size + 1 ≤ w2.heap.size := by omega))
        have B2 : Below w.heap.size w w2 := by repeat (first | exact Below.refl _ _ | assumption | refine Below.alloc ?_ (by first | (simp; done) | (simp; omega) | omega) _ | refine Below.setCell ?_ (by first | (simp; done) | (simp; omega) | omega) _ | apply Below.drew | refine Below.trans ?_ (Below.mono (by assumption) (by first | (simp; done) | (simp; omega) | omega)))
        have hq1 : w.heap.size + 1 + 1 + 1 < w2.heap.size := by have := hw2.size; simp at this; omega
        go_wp2_with fail
        refine (unhide c2 _).mono ?_
        rintro e w3 ⟨rfl, hw3⟩; obtain ⟨hcw3, hfw3⟩ := bcell hw3; (try (simp only [World.size_drew, World.cell?_drew, World.frozen?_drew] at hcw3 hfw3)); have hzw3 := hw3.size; (try (simp only [World.size_alloc, World.size_setCell, World.size_drew] at hzw3)); (try (have hzw3_w_0 : w.heap.size < w3.heap.size := by omega)); (try (have hzw3_w_1 : w.heap.size + 1 < w3.heap.size := by omega)); (try (have hzw3_w_2 : w.heap.size + 1 + 1 < w3.heap.size := by omega)); (try (have hzw3_w_3 : w.heap.size + 1 + 1 + 1 < w3.heap.size := by omega)); (try (have hyw3_w : w.heap.size ≤ w3.heap.size := by omega)); (try (have hyw3_wa : w.heap.size + 1 ≤ w3.heap.size := by omega)); (try (have hzw3_w2_0 : w2.heap.size < w3.heap.size := by omega)); (try (have hzw3_w2_1 : w2.heap.size + 1 < w3.heap.size := by omega)); (try (have hzw3_w2_2 : w2.heap.size + 1 + 1 < w3.heap.size := by omega)); (try (have hzw3_w2_3 : w2.heap.size + 1 + 1 + 1 < w3.heap.size := by omega)); (try (have hyw3_w2 : w2.heap.size ≤ w3.heap.size := by omega)); (try (have hyw3_w2a : w2.heap.size + 1 ≤ w3.heap.size := by omega))
        have B3 : Below w.heap.size w w3 := B2.trans (hw3.mono B2.size)
        go_wp2
        refine bodyPost_ret (v := .tuple #[.agg #[.int .i64 0, .int .i64 0, .int .i64 0], .int .i64 2]) (by simp only [results, Try.results20]; go_simp) rfl ?_
        refine ⟨rfl, ?_⟩
        repeat (first | exact Below.refl _ _ | assumption | refine Below.alloc ?_ (by first | (simp; done) | (simp; omega) | omega) _ | refine Below.setCell ?_ (by first | (simp; done) | (simp; omega) | omega) _ | apply Below.drew | refine Below.trans ?_ (Below.mono (by assumption) (by first | (simp; done) | (simp; omega) | omega)))
      · rw [witB_no h4] at c2
        subst h2
        clear hb er h4
        go_enter Try.func20, Try.ntmps20
        go_wp2_with fail
        refine (unhide c1 _ (by repeat (first | exact Below.refl _ _ | assumption | refine Below.alloc ?_ (by first | (simp; done) | (simp; omega) | omega) _ | refine Below.setCell ?_ (by first | (simp; done) | (simp; omega) | omega) _ | apply Below.drew | refine Below.trans ?_ (Below.mono (by assumption) (by first | (simp; done) | (simp; omega) | omega))))).mono ?_
        rintro e w2 ⟨rfl, hw2⟩; obtain ⟨hcw2, hfw2⟩ := bcell hw2; (try (simp only [World.size_drew, World.cell?_drew, World.frozen?_drew] at hcw2 hfw2)); have hzw2 := hw2.size; (try (simp only [World.size_alloc, World.size_setCell, World.size_drew] at hzw2)); (try (have hzw2_w_0 : w.heap.size < w2.heap.size := by omega)); (try (have hzw2_w_1 : w.heap.size + 1 < w2.heap.size := by omega)); (try (have hzw2_w_2 : w.heap.size + 1 + 1 < w2.heap.size := by omega)); (try (have hzw2_w_3 : w.heap.size + 1 + 1 + 1 < w2.heap.size := by omega)); (try (have hyw2_w : w.heap.size ≤ w2.heap.size := by omega)); (try (have hyw2_wa : w.heap.size + 1 ≤ w2.heap.size := by omega))
        have B2 : Below w.heap.size w w2 := by repeat (first | exact Below.refl _ _ | assumption | refine Below.alloc ?_ (by first | (simp; done) | (simp; omega) | omega) _ | refine Below.setCell ?_ (by first | (simp; done) | (simp; omega) | omega) _ | apply Below.drew | refine Below.trans ?_ (Below.mono (by assumption) (by first | (simp; done) | (simp; omega) | omega)))
        go_wp2_with fail
        refine (unhide c2 _).mono ?_
        rintro e w3 ⟨rfl, hw3⟩; obtain ⟨hcw3, hfw3⟩ := bcell hw3; (try (simp only [World.size_drew, World.cell?_drew, World.frozen?_drew] at hcw3 hfw3)); have hzw3 := hw3.size; (try (simp only [World.size_alloc, World.size_setCell, World.size_drew] at hzw3)); (try (have hzw3_w_0 : w.heap.size < w3.heap.size := by omega)); (try (have hzw3_w_1 : w.heap.size + 1 < w3.heap.size := by omega)); (try (have hzw3_w_2 : w.heap.size + 1 + 1 < w3.heap.size := by omega)); (try (have hzw3_w_3 : w.heap.size + 1 + 1 + 1 < w3.heap.size := by omega)); (try (have hyw3_w : w.heap.size ≤ w3.heap.size := by omega)); (try (have hyw3_wa : w.heap.size + 1 ≤ w3.heap.size := by omega)); (try (have hzw3_w2_0 : w2.heap.size < w3.heap.size := by omega)); (try (have hzw3_w2_1 : w2.heap.size + 1 < w3.heap.size := by omega)); (try (have hzw3_w2_2 : w2.heap.size + 1 + 1 < w3.heap.size := by omega)); (try (have hzw3_w2_3 : w2.heap.size + 1 + 1 + 1 < w3.heap.size := by omega)); (try (have hyw3_w2 : w2.heap.size ≤ w3.heap.size := by omega)); (try (have hyw3_w2a : w2.heap.size + 1 ≤ w3.heap.size := by omega))
        have B3 : Below w.heap.size w w3 := B2.trans (hw3.mono B2.size)
        go_wp2
        refine bodyPost_ret (v := .tuple #[.agg #[.int .i64 0, .int .i64 0, .int .i64 0], .int .i64 2]) (by simp only [results, Try.results20]; go_simp) rfl ?_
        refine ⟨rfl, ?_⟩
        repeat (first | exact Below.refl _ _ | assumption | refine Below.alloc ?_ (by first | (simp; done) | (simp; omega) | omega) _ | refine Below.setCell ?_ (by first | (simp; done) | (simp; omega) | omega) _ | apply Below.drew | refine Below.trans ?_ (Below.mono (by assumption) (by first | (simp; done) | (simp; omega) | omega)))
    · have heb : (e != 0) = true := by simpa using h2
      clear hb h2
      go_enter Try.func20, Try.ntmps20
      go_wp2_with fail
      refine (unhide c1 _ (by repeat (first | exact Below.refl _ _ | assumption | refine Below.alloc ?_ (by first | (simp; done) | (simp; omega) | omega) _ | refine Below.setCell ?_ (by first | (simp; done) | (simp; omega) | omega) _ | apply Below.drew | refine Below.trans ?_ (Below.mono (by assumption) (by first | (simp; done) | (simp; omega) | omega))))).mono ?_
      rintro e w2 ⟨rfl, hw2⟩; obtain ⟨hcw2, hfw2⟩ := bcell hw2; (try (simp only [World.size_drew, World.cell?_drew, World.frozen?_drew] at hcw2 hfw2)); have hzw2 := hw2.size; (try (simp only [World.size_alloc, World.size_setCell, World.size_drew] at hzw2)); (try (have hzw2_w_0 : w.heap.size < w2.heap.size := by omega)); (try (have hzw2_w_1 : w.heap.size + 1 < w2.heap.size := by omega)); (try (have hzw2_w_2 : w.heap.size + 1 + 1 < w2.heap.size := by omega)); (try (have hzw2_w_3 : w.heap.size + 1 + 1 + 1 < w2.heap.size := by omega)); (try (have hyw2_w : w.heap.size ≤ w2.heap.size := by omega)); (try (have hyw2_wa : w.heap.size + 1 ≤ w2.heap.size := by omega))
      have B2 : Below w.heap.size w w2 := by repeat (first | exact Below.refl _ _ | assumption | refine Below.alloc ?_ (by first | (simp; done) | (simp; omega) | omega) _ | refine Below.setCell ?_ (by first | (simp; done) | (simp; omega) | omega) _ | apply Below.drew | refine Below.trans ?_ (Below.mono (by assumption) (by first | (simp; done) | (simp; omega) | omega)))
      go_wp2
      refine bodyPost_ret (v := .tuple #[.agg #[.int .i64 0, .int .i64 0, .int .i64 0], .int .i64 2]) (by simp only [results, Try.results20]; go_simp) rfl ?_
      refine ⟨rfl, ?_⟩
      repeat (first | exact Below.refl _ _ | assumption | refine Below.alloc ?_ (by first | (simp; done) | (simp; omega) | omega) _ | refine Below.setCell ?_ (by first | (simp; done) | (simp; omega) | omega) _ | apply Below.drew | refine Below.trans ?_ (Below.mono (by assumption) (by first | (simp; done) | (simp; omega) | omega)))
  · rw [if_neg (by rw [rgtB_iff]; exact er)] at c1
    clear hb er
    go_enter Try.func20, Try.ntmps20
    go_wp2_with fail
    refine (unhide c1 _ (by repeat (first | exact Below.refl _ _ | assumption | refine Below.alloc ?_ (by first | (simp; done) | (simp; omega) | omega) _ | refine Below.setCell ?_ (by first | (simp; done) | (simp; omega) | omega) _ | apply Below.drew | refine Below.trans ?_ (Below.mono (by assumption) (by first | (simp; done) | (simp; omega) | omega))))).mono ?_
    rintro e w2 ⟨rfl, hw2⟩; obtain ⟨hcw2, hfw2⟩ := bcell hw2; (try (simp only [World.size_drew, World.cell?_drew, World.frozen?_drew] at hcw2 hfw2)); have hzw2 := hw2.size; (try (simp only [World.size_alloc, World.size_setCell, World.size_drew] at hzw2)); (try (have hzw2_w_0 : w.heap.size < w2.heap.size := by omega)); (try (have hzw2_w_1 : w.heap.size + 1 < w2.heap.size := by omega)); (try (have hzw2_w_2 : w.heap.size + 1 + 1 < w2.heap.size := by omega)); (try (have hzw2_w_3 : w.heap.size + 1 + 1 + 1 < w2.heap.size := by omega)); (try (have hyw2_w : w.heap.size ≤ w2.heap.size := by omega)); (try (have hyw2_wa : w.heap.size + 1 ≤ w2.heap.size := by omega))
    have B2 : Below w.heap.size w w2 := by repeat (first | exact Below.refl _ _ | assumption | refine Below.alloc ?_ (by first | (simp; done) | (simp; omega) | omega) _ | refine Below.setCell ?_ (by first | (simp; done) | (simp; omega) | omega) _ | apply Below.drew | refine Below.trans ?_ (Below.mono (by assumption) (by first | (simp; done) | (simp; omega) | omega)))
    go_wp2
    refine bodyPost_ret (v := .tuple #[.agg #[.int .i64 0, .int .i64 0, .int .i64 0], .int .i64 2]) (by simp only [results, Try.results20]; go_simp) rfl ?_
    refine ⟨rfl, ?_⟩
    repeat (first | exact Below.refl _ _ | assumption | refine Below.alloc ?_ (by first | (simp; done) | (simp; omega) | omega) _ | refine Below.setCell ?_ (by first | (simp; done) | (simp; omega) | omega) _ | apply Below.drew | refine Below.trans ?_ (Below.mono (by assumption) (by first | (simp; done) | (simp; omega) | omega)))

set_option maxHeartbeats 4000000 in
theorem refGive_ok (t sp : Int) (A : Option Addr) (len cap : Nat) (S : Nat → ByteArray) (hlen : len ≤ 1000) (hS : ∀ i, i < len → (S i).size ≤ 100) (s a l ca cg n : Int) (hb : rgt t sp len S s a l ∧ (1 ≤ n ∧ n ≤ cg) ∧ wit t sp len S s ca cg ∧ (cg = n ∨ l = 0)) (w : World) (H : ShOk w A len S)
    (vs va vl : Int) (hv : (cg = n ∧ vs = s ∧ va = a ∧ vl = l) ∨ (cg ≠ n ∧ (0 ≤ ca + n ∧ ca + n ≤ 100000 ∧ 0 ≤ cg - n ∧ cg - n ≤ 100000) ∧ vs = s ∧ va = rsA (ca + n) (cg - n) ∧ vl = cg - n)) :
    Calls Try.prog 20 #[.agg #[.int .i64 t, .int .i64 sp, .slice A len cap], .agg #[.int .i64 s, .int .i64 a, .int .i64 l], .agg #[.int .i64 0, .int .i64 ca, .int .i64 cg], .int .i64 n] w
      fun ed w' => ed = .returned (.tuple #[.agg #[.int .i64 vs, .int .i64 va, .int .i64 vl], .int .i64 0]) ∧ Below w.heap.size w w' := by
  have c1 := hide (fun W (hW : Below w.heap.size w W) => refChk15_any t sp A len cap S hlen hS s a l W (H.keep hW))
  obtain ⟨hr, ⟨h1, h2⟩, hw, h3⟩ := hb
  rw [if_pos (rgtB_iff.2 hr)] at c1
  have c2 := hide (fun W => refWithin_any t sp A len cap S s ca cg hr.1 hr.2.1 W)
  rw [witB_iff.2 hw] at c2
  have h4 := hr.2.2.1
  clear H hS hr hw
  rcases hv with ⟨hcg, rfl, rfl, rfl⟩ | ⟨hcg, ⟨p1, p2, p3, p4⟩, rfl, rfl, rfl⟩
  · have h5 : ¬ n < cg := by omega
    clear h3 hcg
    go_enter Try.func20, Try.ntmps20
    go_wp2_with fail
    refine (unhide c1 _ (by repeat (first | exact Below.refl _ _ | assumption | refine Below.alloc ?_ (by first | (simp; done) | (simp; omega) | omega) _ | refine Below.setCell ?_ (by first | (simp; done) | (simp; omega) | omega) _ | apply Below.drew | refine Below.trans ?_ (Below.mono (by assumption) (by first | (simp; done) | (simp; omega) | omega))))).mono ?_
    rintro e w2 ⟨rfl, hw2⟩; obtain ⟨hcw2, hfw2⟩ := bcell hw2; (try (simp only [World.size_drew, World.cell?_drew, World.frozen?_drew] at hcw2 hfw2)); have hzw2 := hw2.size; (try (simp only [World.size_alloc, World.size_setCell, World.size_drew] at hzw2)); (try (have hzw2_w_0 : w.heap.size < w2.heap.size := by omega)); (try (have hzw2_w_1 : w.heap.size + 1 < w2.heap.size := by omega)); (try (have hzw2_w_2 : w.heap.size + 1 + 1 < w2.heap.size := by omega)); (try (have hzw2_w_3 : w.heap.size + 1 + 1 + 1 < w2.heap.size := by omega)); (try (have hyw2_w : w.heap.size ≤ w2.heap.size := by omega)); (try (have hyw2_wa : w.heap.size + 1 ≤ w2.heap.size := by omega))
    have B2 : Below w.heap.size w w2 := by repeat (first | exact Below.refl _ _ | assumption | refine Below.alloc ?_ (by first | (simp; done) | (simp; omega) | omega) _ | refine Below.setCell ?_ (by first | (simp; done) | (simp; omega) | omega) _ | apply Below.drew | refine Below.trans ?_ (Below.mono (by assumption) (by first | (simp; done) | (simp; omega) | omega)))
    have hq1 : w.heap.size + 1 + 1 + 1 < w2.heap.size := by have := hw2.size; simp at this; omega
    go_wp2_with fail
    refine (unhide c2 _).mono ?_
    rintro e w3 ⟨rfl, hw3⟩; obtain ⟨hcw3, hfw3⟩ := bcell hw3; (try (simp only [World.size_drew, World.cell?_drew, World.frozen?_drew] at hcw3 hfw3)); have hzw3 := hw3.size; (try (simp only [World.size_alloc, World.size_setCell, World.size_drew] at hzw3)); (try (have hzw3_w_0 : w.heap.size < w3.heap.size := by omega)); (try (have hzw3_w_1 : w.heap.size + 1 < w3.heap.size := by omega)); (try (have hzw3_w_2 : w.heap.size + 1 + 1 < w3.heap.size := by omega)); (try (have hzw3_w_3 : w.heap.size + 1 + 1 + 1 < w3.heap.size := by omega)); (try (have hyw3_w : w.heap.size ≤ w3.heap.size := by omega)); (try (have hyw3_wa : w.heap.size + 1 ≤ w3.heap.size := by omega)); (try (have hzw3_w2_0 : w2.heap.size < w3.heap.size := by omega)); (try (have hzw3_w2_1 : w2.heap.size + 1 < w3.heap.size := by omega)); (try (have hzw3_w2_2 : w2.heap.size + 1 + 1 < w3.heap.size := by omega)); (try (have hzw3_w2_3 : w2.heap.size + 1 + 1 + 1 < w3.heap.size := by omega)); (try (have hyw3_w2 : w2.heap.size ≤ w3.heap.size := by omega)); (try (have hyw3_w2a : w2.heap.size + 1 ≤ w3.heap.size := by omega))
    have B3 : Below w.heap.size w w3 := B2.trans (hw3.mono B2.size)
    go_wp2
    refine bodyPost_ret (v := .tuple #[.agg #[.int .i64 vs, .int .i64 va, .int .i64 vl], .int .i64 0]) (by simp only [results, Try.results20]; go_simp) rfl ?_
    refine ⟨rfl, ?_⟩
    repeat (first | exact Below.refl _ _ | assumption | refine Below.alloc ?_ (by first | (simp; done) | (simp; omega) | omega) _ | refine Below.setCell ?_ (by first | (simp; done) | (simp; omega) | omega) _ | apply Below.drew | refine Below.trans ?_ (Below.mono (by assumption) (by first | (simp; done) | (simp; omega) | omega)))
  · have h5 : n < cg := by omega
    have h6 : ¬ 0 < l := by omega
    have c3 := hide (fun W => refRest_any vs (ca + n) (cg - n) W)
    generalize rsA (ca + n) (cg - n) = Z at c3 ⊢
    clear h3 hcg
    go_enter Try.func20, Try.ntmps20
    go_wp2_with fail
    refine (unhide c1 _ (by repeat (first | exact Below.refl _ _ | assumption | refine Below.alloc ?_ (by first | (simp; done) | (simp; omega) | omega) _ | refine Below.setCell ?_ (by first | (simp; done) | (simp; omega) | omega) _ | apply Below.drew | refine Below.trans ?_ (Below.mono (by assumption) (by first | (simp; done) | (simp; omega) | omega))))).mono ?_
    rintro e w2 ⟨rfl, hw2⟩; obtain ⟨hcw2, hfw2⟩ := bcell hw2; (try (simp only [World.size_drew, World.cell?_drew, World.frozen?_drew] at hcw2 hfw2)); have hzw2 := hw2.size; (try (simp only [World.size_alloc, World.size_setCell, World.size_drew] at hzw2)); (try (have hzw2_w_0 : w.heap.size < w2.heap.size := by omega)); (try (have hzw2_w_1 : w.heap.size + 1 < w2.heap.size := by omega)); (try (have hzw2_w_2 : w.heap.size + 1 + 1 < w2.heap.size := by omega)); (try (have hzw2_w_3 : w.heap.size + 1 + 1 + 1 < w2.heap.size := by omega)); (try (have hyw2_w : w.heap.size ≤ w2.heap.size := by omega)); (try (have hyw2_wa : w.heap.size + 1 ≤ w2.heap.size := by omega))
    have B2 : Below w.heap.size w w2 := by repeat (first | exact Below.refl _ _ | assumption | refine Below.alloc ?_ (by first | (simp; done) | (simp; omega) | omega) _ | refine Below.setCell ?_ (by first | (simp; done) | (simp; omega) | omega) _ | apply Below.drew | refine Below.trans ?_ (Below.mono (by assumption) (by first | (simp; done) | (simp; omega) | omega)))
    have hq1 : w.heap.size + 1 + 1 + 1 < w2.heap.size := by have := hw2.size; simp at this; omega
    go_wp2_with fail
    refine (unhide c2 _).mono ?_
    rintro e w3 ⟨rfl, hw3⟩; obtain ⟨hcw3, hfw3⟩ := bcell hw3; (try (simp only [World.size_drew, World.cell?_drew, World.frozen?_drew] at hcw3 hfw3)); have hzw3 := hw3.size; (try (simp only [World.size_alloc, World.size_setCell, World.size_drew] at hzw3)); (try (have hzw3_w_0 : w.heap.size < w3.heap.size := by omega)); (try (have hzw3_w_1 : w.heap.size + 1 < w3.heap.size := by omega)); (try (have hzw3_w_2 : w.heap.size + 1 + 1 < w3.heap.size := by omega)); (try (have hzw3_w_3 : w.heap.size + 1 + 1 + 1 < w3.heap.size := by omega)); (try (have hyw3_w : w.heap.size ≤ w3.heap.size := by omega)); (try (have hyw3_wa : w.heap.size + 1 ≤ w3.heap.size := by omega)); (try (have hzw3_w2_0 : w2.heap.size < w3.heap.size := by omega)); (try (have hzw3_w2_1 : w2.heap.size + 1 < w3.heap.size := by omega)); (try (have hzw3_w2_2 : w2.heap.size + 1 + 1 < w3.heap.size := by omega)); (try (have hzw3_w2_3 : w2.heap.size + 1 + 1 + 1 < w3.heap.size := by omega)); (try (have hyw3_w2 : w2.heap.size ≤ w3.heap.size := by omega)); (try (have hyw3_w2a : w2.heap.size + 1 ≤ w3.heap.size := by omega))
    have B3 : Below w.heap.size w w3 := B2.trans (hw3.mono B2.size)
    go_wp2_with fail
    refine (unhide c3 _).mono ?_
    rintro e w4 ⟨rfl, hw4⟩; obtain ⟨hcw4, hfw4⟩ := bcell hw4; (try (simp only [World.size_drew, World.cell?_drew, World.frozen?_drew] at hcw4 hfw4)); have hzw4 := hw4.size; (try (simp only [World.size_alloc, World.size_setCell, World.size_drew] at hzw4)); (try (have hzw4_w_0 : w.heap.size < w4.heap.size := by omega)); (try (have hzw4_w_1 : w.heap.size + 1 < w4.heap.size := by omega)); (try (have hzw4_w_2 : w.heap.size + 1 + 1 < w4.heap.size := by omega)); (try (have hzw4_w_3 : w.heap.size + 1 + 1 + 1 < w4.heap.size := by omega)); (try (have hyw4_w : w.heap.size ≤ w4.heap.size := by omega)); (try (have hyw4_wa : w.heap.size + 1 ≤ w4.heap.size := by omega)); (try (have hzw4_w2_0 : w2.heap.size < w4.heap.size := by omega)); (try (have hzw4_w2_1 : w2.heap.size + 1 < w4.heap.size := by omega)); (try (have hzw4_w2_2 : w2.heap.size + 1 + 1 < w4.heap.size := by omega)); (try (have hzw4_w2_3 : w2.heap.size + 1 + 1 + 1 < w4.heap.size := by omega)); (try (have hyw4_w2 : w2.heap.size ≤ w4.heap.size := by omega)); (try (have hyw4_w2a : w2.heap.size + 1 ≤ w4.heap.size := by omega)); (try (have hzw4_w3_0 : w3.heap.size < w4.heap.size := by omega)); (try (have hzw4_w3_1 : w3.heap.size + 1 < w4.heap.size := by omega)); (try (have hzw4_w3_2 : w3.heap.size + 1 + 1 < w4.heap.size := by omega)); (try (have hzw4_w3_3 : w3.heap.size + 1 + 1 + 1 < w4.heap.size := by omega)); (try (have hyw4_w3 : w3.heap.size ≤ w4.heap.size := by omega)); (try (have hyw4_w3a : w3.heap.size + 1 ≤ w4.heap.size := by omega))
    have B4 : Below w.heap.size w w4 := B3.trans (hw4.mono B3.size)
    go_wp2
    refine bodyPost_ret (v := .tuple #[.agg #[.int .i64 vs, .int .i64 Z, .int .i64 (cg - n)], .int .i64 0]) (by simp only [results, Try.results20]; go_simp) rfl ?_
    refine ⟨rfl, ?_⟩
    repeat (first | exact Below.refl _ _ | assumption | refine Below.alloc ?_ (by first | (simp; done) | (simp; omega) | omega) _ | refine Below.setCell ?_ (by first | (simp; done) | (simp; omega) | omega) _ | apply Below.drew | refine Below.trans ?_ (Below.mono (by assumption) (by first | (simp; done) | (simp; omega) | omega)))
end Go.Proofs.Ytkmoefijncjlhaa
