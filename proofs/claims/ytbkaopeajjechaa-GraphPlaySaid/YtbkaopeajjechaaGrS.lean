/- The walks of package graph: Do. -/
import Derived.Test.YtbkaopeajjechaaGrR
namespace Go.Proofs.Ytbkaopeajjechaa
set_option linter.unusedVariables false
set_option linter.unusedSimpArgs false
open Go.RowKit Go.Maps

section
variable {T : Nat} {sp : Int} {len : Nat} {S : Nat → ByteArray} {w : World} {L : Lay} {G : Gr} {md : Int}

theorem none_no (H : IsG T sp len S w L G md) : Calls Try.prog 31 #[.pointer (some ⟨L.g, 0, none⟩)] w fun e w' => e = .returned (.bool false) ∧ w = w' := by
  have h3 := H.c3
  have h1 : ((T : Int) == 0) = false := by have := H.one; simp; omega
  clear H
  go_enter Try.func31, Try.ntmps31
  go_wp2
  go_ret
  exact ⟨rfl, rfl⟩
theorem none_nil (w : World) : Calls Try.prog 31 #[.pointer none] w fun e w' => e = .returned (.bool true) ∧ w = w' := by
  go_enter Try.func31, Try.ntmps31
  go_wp2
  go_ret
  exact ⟨rfl, rfl⟩
theorem none_zero {w : World} {g : Nat} {A : Option Addr} {c : Nat} (h3 : w.cell? ⟨g, 3, none⟩ = some (.slice A 0 c)) : Calls Try.prog 31 #[.pointer (some ⟨g, 0, none⟩)] w fun e w' => e = .returned (.bool true) ∧ w = w' := by
  go_enter Try.func31, Try.ntmps31
  go_wp2
  go_ret
  exact ⟨rfl, rfl⟩

abbrev outZ : Value := .agg #[.int .i64 0, .bool false, .int .i64 0]

set_option maxRecDepth 100000 in
set_option maxHeartbeats 4000000 in
theorem do_range (H : IsG T sp len S w L G md) (t : Int) (z : Nat → Int) (ht : t < 0 ∨ (T : Int) ≤ t) :
    Calls Try.prog 14 #[.pointer (some ⟨L.g, 0, none⟩), .int .i64 t, opV z] w fun e w' => e = .returned (.tuple #[outZ, .int .i64 4]) ∧ Below w.heap.size w w' := by
  have c1 := hide (fun W (hW : Below w.heap.size w W) => none_no (H.below hW))
  have h3 := H.c3
  have lg := block_lt h3
  clear H
  have lg0 : L.g < w.heap.size := lg
  have lg1 : L.g < w.heap.size + 1 := by omega
  have lg2 : L.g < w.heap.size + 1 + 1 := by omega
  have hmf : ∀ (fn : Fn) (first cap : Array Value) (w : World), (Instr.makeFunc fn first cap).run Try.prog w = .ok (.func fn first cap) w := fun _ _ _ _ => rfl
  rcases ht with ht | ht
  · go_enter_defers Try.func14, Try.ntmps14
    go_wp2_with fail
    refine (unhide c1 _ (by repeat (first | exact Below.refl _ _ | assumption | refine Below.alloc ?_ (by first | (simp; done) | (simp; omega) | omega) _ | refine Below.setCell ?_ (by first | (simp; done) | (simp; omega) | omega) _ | apply Below.drew | refine Below.trans ?_ (Below.mono (by assumption) (by first | (simp; done) | (simp; omega) | omega))))).mono ?_
    rintro e w2 ⟨rfl, rfl⟩
    go_wp2
    refine ⟨.tuple #[outZ, .int .i64 4], ?_, rfl, by repeat (first | exact Below.refl _ _ | assumption | refine Below.alloc ?_ (by first | (simp; done) | (simp; omega) | omega) _ | refine Below.setCell ?_ (by first | (simp; done) | (simp; omega) | omega) _ | apply Below.drew | refine Below.trans ?_ (Below.mono (by assumption) (by first | (simp; done) | (simp; omega) | omega)))⟩
    simp only [results, Try.results14]
    go_simp
  · have h1 : ¬ t < 0 := by omega
    go_enter_defers Try.func14, Try.ntmps14
    go_wp2_with fail
    refine (unhide c1 _ (by repeat (first | exact Below.refl _ _ | assumption | refine Below.alloc ?_ (by first | (simp; done) | (simp; omega) | omega) _ | refine Below.setCell ?_ (by first | (simp; done) | (simp; omega) | omega) _ | apply Below.drew | refine Below.trans ?_ (Below.mono (by assumption) (by first | (simp; done) | (simp; omega) | omega))))).mono ?_
    rintro e w2 ⟨rfl, rfl⟩
    go_wp2
    refine ⟨.tuple #[outZ, .int .i64 4], ?_, rfl, by repeat (first | exact Below.refl _ _ | assumption | refine Below.alloc ?_ (by first | (simp; done) | (simp; omega) | omega) _ | refine Below.setCell ?_ (by first | (simp; done) | (simp; omega) | omega) _ | apply Below.drew | refine Below.trans ?_ (Below.mono (by assumption) (by first | (simp; done) | (simp; omega) | omega)))⟩
    simp only [results, Try.results14]
    go_simp

set_option maxRecDepth 100000 in
set_option maxHeartbeats 4000000 in
theorem do_nil (t : Int) (z : Nat → Int) (w : World) :
    Calls Try.prog 14 #[.pointer none, .int .i64 t, opV z] w fun e w' => e = .returned (.tuple #[outZ, .int .i64 1]) ∧ Below w.heap.size w w' := by
  have hmf : ∀ (fn : Fn) (first cap : Array Value) (w : World), (Instr.makeFunc fn first cap).run Try.prog w = .ok (.func fn first cap) w := fun _ _ _ _ => rfl
  go_enter_defers Try.func14, Try.ntmps14
  go_wp2_with fail
  refine (none_nil _).mono ?_
  rintro e w2 ⟨rfl, rfl⟩
  go_wp2
  refine ⟨.tuple #[outZ, .int .i64 1], ?_, rfl, by repeat (first | exact Below.refl _ _ | assumption | refine Below.alloc ?_ (by first | (simp; done) | (simp; omega) | omega) _ | refine Below.setCell ?_ (by first | (simp; done) | (simp; omega) | omega) _ | apply Below.drew | refine Below.trans ?_ (Below.mono (by assumption) (by first | (simp; done) | (simp; omega) | omega)))⟩
  simp only [results, Try.results14]
  go_simp

set_option maxRecDepth 100000 in
set_option maxHeartbeats 4000000 in
theorem do_zero (t : Int) (z : Nat → Int) {w : World} {g : Nat} {A : Option Addr} {c : Nat} (h3 : w.cell? ⟨g, 3, none⟩ = some (.slice A 0 c)) :
    Calls Try.prog 14 #[.pointer (some ⟨g, 0, none⟩), .int .i64 t, opV z] w fun e w' => e = .returned (.tuple #[outZ, .int .i64 1]) ∧ Below w.heap.size w w' := by
  have lg := block_lt h3
  have c1 := hide (fun W (hW : Below w.heap.size w W) => none_zero ((hW.cell lg).trans h3))
  have hmf : ∀ (fn : Fn) (first cap : Array Value) (w : World), (Instr.makeFunc fn first cap).run Try.prog w = .ok (.func fn first cap) w := fun _ _ _ _ => rfl
  go_enter_defers Try.func14, Try.ntmps14
  go_wp2_with fail
  refine (unhide c1 _ (by repeat (first | exact Below.refl _ _ | assumption | refine Below.alloc ?_ (by first | (simp; done) | (simp; omega) | omega) _ | refine Below.setCell ?_ (by first | (simp; done) | (simp; omega) | omega) _ | apply Below.drew | refine Below.trans ?_ (Below.mono (by assumption) (by first | (simp; done) | (simp; omega) | omega))))).mono ?_
  rintro e w2 ⟨rfl, rfl⟩
  go_wp2
  refine ⟨.tuple #[outZ, .int .i64 1], ?_, rfl, by repeat (first | exact Below.refl _ _ | assumption | refine Below.alloc ?_ (by first | (simp; done) | (simp; omega) | omega) _ | refine Below.setCell ?_ (by first | (simp; done) | (simp; omega) | omega) _ | apply Below.drew | refine Below.trans ?_ (Below.mono (by assumption) (by first | (simp; done) | (simp; omega) | omega)))⟩
  simp only [results, Try.results14]
  go_simp

set_option maxRecDepth 100000 in
set_option maxHeartbeats 4000000 in
theorem do_check (H : IsG T sp len S w L G md) (hlen : len ≤ 9223372036854775807) (hS : ∀ i, i < len → (S i).size ≤ 9223372036854775807) (t : Int) (z : Nat → Int) (ht : 0 ≤ t ∧ t < (T : Int)) (h0 : opE len S z ≠ 0) :
    Calls Try.prog 14 #[.pointer (some ⟨L.g, 0, none⟩), .int .i64 t, opV z] w fun e w' => e = .returned (.tuple #[.agg #[.int .i64 (opE len S z), .bool false, .int .i64 0], .int .i64 0]) ∧ Below w.heap.size w w' := by
  have c1 := hide (fun W (hW : Below w.heap.size w W) => none_no (H.below hW))
  have c2 := hide (fun W (hW : Below w.heap.size w W) => opChk_any L.shA len L.shcap S hlen hS z W (H.below hW).shp)
  have h3 := H.c3
  have g2 := H.c2
  have lg := block_lt h3
  clear H hS
  have hb : (opE len S z == 0) = false := by simpa using h0
  generalize opE len S z = E at *
  have lg0 : L.g < w.heap.size := lg
  have lg1 : L.g < w.heap.size + 1 := by omega
  have lg2 : L.g < w.heap.size + 1 + 1 := by omega
  obtain ⟨ht1, ht2⟩ := ht
  have ht3 : ¬ t < 0 := by omega
  have ht4 : ¬ (T : Int) ≤ t := by omega
  have hmf : ∀ (fn : Fn) (first cap : Array Value) (w : World), (Instr.makeFunc fn first cap).run Try.prog w = .ok (.func fn first cap) w := fun _ _ _ _ => rfl
  go_enter_defers Try.func14, Try.ntmps14
  go_wp2_with fail
  refine (unhide c1 _ (by repeat (first | exact Below.refl _ _ | assumption | refine Below.alloc ?_ (by first | (simp; done) | (simp; omega) | omega) _ | refine Below.setCell ?_ (by first | (simp; done) | (simp; omega) | omega) _ | apply Below.drew | refine Below.trans ?_ (Below.mono (by assumption) (by first | (simp; done) | (simp; omega) | omega))))).mono ?_
  rintro e w2 ⟨rfl, rfl⟩
  go_wp2
  refine wp_gen ?_; intro W1 hW1; have hB1 : Below w.heap.size w W1 := (by rw [hW1]; repeat (first | exact Below.refl _ _ | assumption | refine Below.alloc ?_ (by first | (simp; done) | (simp; omega) | omega) _ | refine Below.setCell ?_ (by first | (simp; done) | (simp; omega) | omega) _ | apply Below.drew | refine Below.trans ?_ (Below.mono (by assumption) (by first | (simp; done) | (simp; omega) | omega)))); have hz1 : w.heap.size < W1.heap.size := (by rw [hW1]; simp <;> omega); have u0 : ∀ v : Later W1, v.val.cell? ⟨w.heap.size, 0, none⟩ = some (.int .i64 (z 0)) := Later.cell hz1 (by rw [hW1]; go_simp); have u1 : ∀ v : Later W1, v.val.cell? ⟨w.heap.size, 1, none⟩ = some (.int .i64 (z 1)) := Later.cell hz1 (by rw [hW1]; go_simp); have u2 : ∀ v : Later W1, v.val.cell? ⟨w.heap.size, 2, none⟩ = some (.int .i64 (z 2)) := Later.cell hz1 (by rw [hW1]; go_simp); have u3 : ∀ v : Later W1, v.val.cell? ⟨w.heap.size, 3, none⟩ = some (.int .i64 (z 3)) := Later.cell hz1 (by rw [hW1]; go_simp); have u4 : ∀ v : Later W1, v.val.cell? ⟨w.heap.size, 4, none⟩ = some (.int .i64 (z 4)) := Later.cell hz1 (by rw [hW1]; go_simp); have u5 : ∀ v : Later W1, v.val.cell? ⟨w.heap.size, 5, none⟩ = some (.int .i64 (z 5)) := Later.cell hz1 (by rw [hW1]; go_simp); have u6 : ∀ v : Later W1, v.val.cell? ⟨w.heap.size, 6, none⟩ = some (.int .i64 (z 6)) := Later.cell hz1 (by rw [hW1]; go_simp); have u7 : ∀ v : Later W1, v.val.cell? ⟨w.heap.size, 7, none⟩ = some (.int .i64 (z 7)) := Later.cell hz1 (by rw [hW1]; go_simp)
  have v2 := Later.cell (w := W1) (Nat.lt_trans (block_lt g2) hz1) ((hB1.cell (block_lt g2)).trans g2)
  have CC := hide (fun v : Later W1 => later_call (unhide c2 v.val (hB1.trans (v.ok.mono (by omega)))))
  have hz2 : w.heap.size + 1 < W1.heap.size := (by rw [hW1]; simp); have k0 : W1.cell? ⟨w.heap.size + 1, 0, none⟩ = some (.int .i64 0) := (by rw [hW1]; go_simp); have k1 : W1.cell? ⟨w.heap.size + 1, 1, none⟩ = some (.bool false) := (by rw [hW1]; go_simp); have k2 : W1.cell? ⟨w.heap.size + 1, 2, none⟩ = some (.int .i64 0) := (by rw [hW1]; go_simp); have kf0 : W1.frozen? ⟨w.heap.size + 1, 0, none⟩ = false := (by rw [hW1]; go_simp); have kf1 : W1.frozen? ⟨w.heap.size + 1, 1, none⟩ = false := (by rw [hW1]; go_simp); have kf2 : W1.frozen? ⟨w.heap.size + 1, 2, none⟩ = false := (by rw [hW1]; go_simp); clear hW1
  refine wp_region_later W1 (by kernel_rfl) (by kernel_rfl) (by repeat (first | exact Below.refl _ _ | assumption | refine Below.alloc ?_ (by first | (simp; done) | (simp; omega) | omega) _ | refine Below.setCell ?_ (by first | (simp; done) | (simp; omega) | omega) _ | apply Below.drew | refine Below.trans ?_ (Below.mono (by assumption) (by first | (simp; done) | (simp; omega) | omega)))) ?_; (repeat (first | go_big_quiet_skip | (go_big_quiet_want; (first | ((fail); go_big_quiet_on; simp only [Act.put, List.setIfInBounds_toArray, List.set_cons_zero, List.set_cons_succ]) | (go_big_quiet_op; (first | go_big_quiet_on | go_big_quiet_call (((go_at_call 33; exact unhide CC _))))))))); refine wpQuiet_nil ?_
  intro U hU
  have k0 := (hU.cell (p := ⟨w.heap.size + 1, 0, none⟩) hz2).trans k0; have k1 := (hU.cell (p := ⟨w.heap.size + 1, 1, none⟩) hz2).trans k1; have k2 := (hU.cell (p := ⟨w.heap.size + 1, 2, none⟩) hz2).trans k2; have kf0 := (hU.frozen (p := ⟨w.heap.size + 1, 0, none⟩) hz2).trans kf0; have kf1 := (hU.frozen (p := ⟨w.heap.size + 1, 1, none⟩) hz2).trans kf1; have kf2 := (hU.frozen (p := ⟨w.heap.size + 1, 2, none⟩) hz2).trans kf2; have hBU : Below w.heap.size w U := hB1.trans (hU.mono (by omega)); have hzU : w.heap.size + 1 < U.heap.size := Nat.lt_of_lt_of_le hz2 hU.size; have hzV : w.heap.size < U.heap.size := Nat.lt_of_succ_lt hzU
  go_wp2_with fail
  refine (must_no E _).mono ?_
  rintro e w4 ⟨rfl, rfl⟩
  go_wp2
  refine leaves_cons (f := 32) (args := #[.pointer (some ⟨w.heap.size + 1, 0, none⟩)]) (by simp) (by simp [go_sem]) ?_
  refine (catch_pan (w.heap.size + 1) E [] _ _ _ _ k0 k1 k2 kf0 kf1 kf2).mono ?_
  rintro e u' w'' ⟨rfl, rfl, rfl⟩
  refine ⟨.tuple #[.agg #[.int .i64 E, .bool false, .int .i64 0], .int .i64 0], ?_, rfl, by repeat (first | exact Below.refl _ _ | assumption | refine Below.alloc ?_ (by first | (simp; done) | (simp; omega) | omega) _ | refine Below.setCell ?_ (by first | (simp; done) | (simp; omega) | omega) _ | apply Below.drew | refine Below.trans ?_ (Below.mono (by assumption) (by first | (simp; done) | (simp; omega) | omega)))⟩
  simp only [results, Try.results14]
  go_simp
end
end Go.Proofs.Ytbkaopeajjechaa
