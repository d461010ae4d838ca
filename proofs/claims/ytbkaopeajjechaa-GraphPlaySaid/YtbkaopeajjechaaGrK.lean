/- The walks of package graph: the object of a turn. -/
import Derived.Test.YtbkaopeajjechaaGrJ
import Derived.Test.YtbkaopeajjechaaRh
namespace Go.Proofs.Ytbkaopeajjechaa
set_option linter.unusedVariables false
set_option linter.unusedSimpArgs false
open Go.RowKit Go.Maps

/-- What is panicked with. -/
abbrev panE (x : Int) : Ending := .panicked [{ v := .iface 32 (.int .i64 x), recovered := false }]

theorem must_yes (x : Int) (w : World) : Calls Try.prog 34 #[.bool true, .int .i64 x] w fun e w' => e = .returned (.tuple #[]) ∧ w = w' := by
  go_enter Try.func34, Try.ntmps34
  go_wp2
  first | go_end0 | refine bodyPost_ret (results_none rfl _ _ _) rfl ?_
  exact ⟨rfl, rfl⟩
theorem must_no (x : Int) (w : World) : Calls Try.prog 34 #[.bool false, .int .i64 x] w fun e w' => e = panE x ∧ w = w' := by
  go_enter Try.func34, Try.ntmps34
  go_wp2
  exact ⟨rfl, rfl, rfl⟩

/-- A turn: a graph, an operation, a thread's slots. -/
abbrev trV (L : Lay) (t : Nat) (z : Nat → Int) : Value := .agg #[.pointer (some ⟨L.g, 0, none⟩), .int .i64 (z 0), .int .i64 (z 1), .int .i64 (z 2), .int .i64 (z 3), .int .i64 (z 4), .int .i64 (z 5), .int .i64 (z 6), .int .i64 (z 7), .pointer (some ⟨L.rb, t * 6, none⟩)]

theorem wp_gen {P : Program} {c : Code} {Q : Exit → Act → World → Prop} {a : Act} {w : World} (h : ∀ W, W = w → c.wp P Q a W) : c.wp P Q a w := h w rfl

/-- The cells of a turn in a variable. -/
def TrAt (w : World) (b : Nat) (L : Lay) (t : Nat) (z : Nat → Int) : Prop :=
  w.cell? ⟨b, 0, none⟩ = some (.pointer (some ⟨L.g, 0, none⟩)) ∧ (∀ i, i < 8 → w.cell? ⟨b, i + 1, none⟩ = some (.int .i64 (z i))) ∧ w.cell? ⟨b, 9, none⟩ = some (.pointer (some ⟨L.rb, t * 6, none⟩))

section
variable {T : Nat} {sp : Int} {len : Nat} {S : Nat → ByteArray} {w : World} {L : Lay} {G : Gr} {md : Int}

set_option maxRecDepth 100000 in
set_option maxHeartbeats 4000000 in
theorem of_ok (H : IsG T sp len S w L G md) (hlen : len ≤ 9223372036854775807) (hS : ∀ i, i < len → (S i).size ≤ 9223372036854775807)
    (t a : Nat) (z : Nat → Int) (k : Int) (ht : t < T) (ha : z 1 = (a : Int)) (ha6 : a < 6) (ho : G.root t a ≠ 0) (hi : isE len S (G.sh (G.root t a)) (z 4) k = 0) :
    Calls Try.prog 90 #[trV L t z, .int .i64 k] w fun e w' => e = .returned (L.ptr (G.root t a)) ∧ Below w.heap.size w w' := by
  have hO := H.obj _ ((H.rinn t a ht ha6).resolve_left ho)
  have hp : L.ptr (G.root t a) = .pointer (some ⟨L.adr (G.root t a), 0, none⟩) := by unfold Lay.ptr; rw [if_neg ho]
  have r0 := (H.root t a ht ha6).1
  have o0 := hO.c0
  have g2 := H.c2
  have c1 := hide (fun W (hW : Below w.heap.size w W) => shIs_any L.shA len L.shcap S hlen hS (G.sh (G.root t a)) (z 4) k W (H.shp.keep hW))
  rw [hi] at c1
  rw [hp] at r0 ⊢
  clear H hO hS hi hp
  generalize G.root t a = o at *
  generalize L.adr o = ao at *
  generalize (G.sh o) = so at *
  have a0 : (0 : Int) ≤ (a : Int) := by omega
  have a1 : (a : Int) < 6 := by omega
  go_enter Try.func90, Try.ntmps90
  go_wp2
  refine wp_gen ?_; intro W1 hW1; have hB1 : Below w.heap.size w W1 := (by rw [hW1]; repeat (first | exact Below.refl _ _ | assumption | refine Below.alloc ?_ (by first | (simp; done) | (simp; omega) | omega) _ | refine Below.setCell ?_ (by first | (simp; done) | (simp; omega) | omega) _ | apply Below.drew | refine Below.trans ?_ (Below.mono (by assumption) (by first | (simp; done) | (simp; omega) | omega)))); have hz1 : w.heap.size < W1.heap.size := (by rw [hW1]; simp <;> omega); have u0 : ∀ v : Later W1, v.val.cell? ⟨w.heap.size, 0 + 1, none⟩ = some (.int .i64 (z 0)) := Later.cell hz1 (by rw [hW1]; go_simp); have u1 : ∀ v : Later W1, v.val.cell? ⟨w.heap.size, 1 + 1, none⟩ = some (.int .i64 (z 1)) := Later.cell hz1 (by rw [hW1]; go_simp); have u2 : ∀ v : Later W1, v.val.cell? ⟨w.heap.size, 2 + 1, none⟩ = some (.int .i64 (z 2)) := Later.cell hz1 (by rw [hW1]; go_simp); have u3 : ∀ v : Later W1, v.val.cell? ⟨w.heap.size, 3 + 1, none⟩ = some (.int .i64 (z 3)) := Later.cell hz1 (by rw [hW1]; go_simp); have u4 : ∀ v : Later W1, v.val.cell? ⟨w.heap.size, 4 + 1, none⟩ = some (.int .i64 (z 4)) := Later.cell hz1 (by rw [hW1]; go_simp); have u5 : ∀ v : Later W1, v.val.cell? ⟨w.heap.size, 5 + 1, none⟩ = some (.int .i64 (z 5)) := Later.cell hz1 (by rw [hW1]; go_simp); have u6 : ∀ v : Later W1, v.val.cell? ⟨w.heap.size, 6 + 1, none⟩ = some (.int .i64 (z 6)) := Later.cell hz1 (by rw [hW1]; go_simp); have u7 : ∀ v : Later W1, v.val.cell? ⟨w.heap.size, 7 + 1, none⟩ = some (.int .i64 (z 7)) := Later.cell hz1 (by rw [hW1]; go_simp); have ug : ∀ v : Later W1, v.val.cell? ⟨w.heap.size, 0, none⟩ = some (.pointer (some ⟨L.g, 0, none⟩)) := Later.cell hz1 (by rw [hW1]; go_simp); have us : ∀ v : Later W1, v.val.cell? ⟨w.heap.size, 9, none⟩ = some (.pointer (some ⟨L.rb, t * 6, none⟩)) := Later.cell hz1 (by rw [hW1]; go_simp)
  have v0 := Later.cell (w := W1) (Nat.lt_trans (block_lt r0) hz1) ((hB1.cell (block_lt r0)).trans r0)
  have v1 := Later.cell (w := W1) (Nat.lt_trans (block_lt g2) hz1) ((hB1.cell (block_lt g2)).trans g2)
  have v2 := Later.cell (w := W1) (Nat.lt_trans (block_lt o0) hz1) ((hB1.cell (block_lt o0)).trans o0)
  have CI := hide (fun v : Later W1 => later_call (unhide c1 v.val (hB1.trans (v.ok.mono (by omega)))))
  clear hW1
  refine wp_region_later W1 (by kernel_rfl) (by kernel_rfl) (by repeat (first | exact Below.refl _ _ | assumption | refine Below.alloc ?_ (by first | (simp; done) | (simp; omega) | omega) _ | refine Below.setCell ?_ (by first | (simp; done) | (simp; omega) | omega) _ | apply Below.drew | refine Below.trans ?_ (Below.mono (by assumption) (by first | (simp; done) | (simp; omega) | omega)))) ?_; (repeat (first | go_big_quiet_skip | (go_big_quiet_want; (first | ((fail); go_big_quiet_on; simp only [Act.put, List.setIfInBounds_toArray, List.set_cons_zero, List.set_cons_succ]) | (go_big_quiet_op; (first | go_big_quiet_on | go_big_quiet_call ((fail)))))))); refine wpQuiet_nil ?_
  intro w2 hw2
  go_wp2_with fail
  refine (must_yes 183 _).mono ?_
  rintro e w3 ⟨rfl, rfl⟩
  go_wp2_with fail
  refine wp_region_later W1 (by kernel_rfl) (by kernel_rfl) (by repeat (first | exact Below.refl _ _ | assumption | refine Below.alloc ?_ (by first | (simp; done) | (simp; omega) | omega) _ | refine Below.setCell ?_ (by first | (simp; done) | (simp; omega) | omega) _ | apply Below.drew | refine Below.trans ?_ (Below.mono (by assumption) (by first | (simp; done) | (simp; omega) | omega)))) ?_; (repeat (first | go_big_quiet_skip | (go_big_quiet_want; (first | ((fail); go_big_quiet_on; simp only [Act.put, List.setIfInBounds_toArray, List.set_cons_zero, List.set_cons_succ]) | (go_big_quiet_op; (first | go_big_quiet_on | go_big_quiet_call (((go_at_call 101; exact unhide CI _))))))))); refine wpQuiet_nil ?_
  intro w3 hw3
  go_wp2_with fail
  refine (must_yes 0 _).mono ?_
  rintro e w4 ⟨rfl, rfl⟩
  go_wp2
  go_ret
  exact ⟨rfl, hB1.trans (hw3.mono (by omega))⟩

set_option maxRecDepth 100000 in
set_option maxHeartbeats 4000000 in
theorem of_bad (H : IsG T sp len S w L G md) (hlen : len ≤ 9223372036854775807) (hS : ∀ i, i < len → (S i).size ≤ 9223372036854775807)
    (t a : Nat) (z : Nat → Int) (k : Int) (ht : t < T) (ha : z 1 = (a : Int)) (ha6 : a < 6) (ho : G.root t a ≠ 0) (hi : isE len S (G.sh (G.root t a)) (z 4) k ≠ 0) :
    Calls Try.prog 90 #[trV L t z, .int .i64 k] w fun e w' => e = panE (isE len S (G.sh (G.root t a)) (z 4) k) ∧ Below w.heap.size w w' := by
  have hO := H.obj _ ((H.rinn t a ht ha6).resolve_left ho)
  have hp : L.ptr (G.root t a) = .pointer (some ⟨L.adr (G.root t a), 0, none⟩) := by unfold Lay.ptr; rw [if_neg ho]
  have r0 := (H.root t a ht ha6).1
  have o0 := hO.c0
  have g2 := H.c2
  have c1 := hide (fun W (hW : Below w.heap.size w W) => shIs_any L.shA len L.shcap S hlen hS (G.sh (G.root t a)) (z 4) k W (H.shp.keep hW))
  have hb : (isE len S (G.sh (G.root t a)) (z 4) k == 0) = false := by simpa using hi
  rw [hp] at r0
  clear H hO hS hi hp
  generalize isE len S (G.sh (G.root t a)) (z 4) k = E at *
  generalize G.root t a = o at *
  generalize L.adr o = ao at *
  generalize (G.sh o) = so at *
  have a0 : (0 : Int) ≤ (a : Int) := by omega
  have a1 : (a : Int) < 6 := by omega
  go_enter Try.func90, Try.ntmps90
  go_wp2
  refine wp_gen ?_; intro W1 hW1; have hB1 : Below w.heap.size w W1 := (by rw [hW1]; repeat (first | exact Below.refl _ _ | assumption | refine Below.alloc ?_ (by first | (simp; done) | (simp; omega) | omega) _ | refine Below.setCell ?_ (by first | (simp; done) | (simp; omega) | omega) _ | apply Below.drew | refine Below.trans ?_ (Below.mono (by assumption) (by first | (simp; done) | (simp; omega) | omega)))); have hz1 : w.heap.size < W1.heap.size := (by rw [hW1]; simp <;> omega); have u0 : ∀ v : Later W1, v.val.cell? ⟨w.heap.size, 0 + 1, none⟩ = some (.int .i64 (z 0)) := Later.cell hz1 (by rw [hW1]; go_simp); have u1 : ∀ v : Later W1, v.val.cell? ⟨w.heap.size, 1 + 1, none⟩ = some (.int .i64 (z 1)) := Later.cell hz1 (by rw [hW1]; go_simp); have u2 : ∀ v : Later W1, v.val.cell? ⟨w.heap.size, 2 + 1, none⟩ = some (.int .i64 (z 2)) := Later.cell hz1 (by rw [hW1]; go_simp); have u3 : ∀ v : Later W1, v.val.cell? ⟨w.heap.size, 3 + 1, none⟩ = some (.int .i64 (z 3)) := Later.cell hz1 (by rw [hW1]; go_simp); have u4 : ∀ v : Later W1, v.val.cell? ⟨w.heap.size, 4 + 1, none⟩ = some (.int .i64 (z 4)) := Later.cell hz1 (by rw [hW1]; go_simp); have u5 : ∀ v : Later W1, v.val.cell? ⟨w.heap.size, 5 + 1, none⟩ = some (.int .i64 (z 5)) := Later.cell hz1 (by rw [hW1]; go_simp); have u6 : ∀ v : Later W1, v.val.cell? ⟨w.heap.size, 6 + 1, none⟩ = some (.int .i64 (z 6)) := Later.cell hz1 (by rw [hW1]; go_simp); have u7 : ∀ v : Later W1, v.val.cell? ⟨w.heap.size, 7 + 1, none⟩ = some (.int .i64 (z 7)) := Later.cell hz1 (by rw [hW1]; go_simp); have ug : ∀ v : Later W1, v.val.cell? ⟨w.heap.size, 0, none⟩ = some (.pointer (some ⟨L.g, 0, none⟩)) := Later.cell hz1 (by rw [hW1]; go_simp); have us : ∀ v : Later W1, v.val.cell? ⟨w.heap.size, 9, none⟩ = some (.pointer (some ⟨L.rb, t * 6, none⟩)) := Later.cell hz1 (by rw [hW1]; go_simp)
  have v0 := Later.cell (w := W1) (Nat.lt_trans (block_lt r0) hz1) ((hB1.cell (block_lt r0)).trans r0)
  have v1 := Later.cell (w := W1) (Nat.lt_trans (block_lt g2) hz1) ((hB1.cell (block_lt g2)).trans g2)
  have v2 := Later.cell (w := W1) (Nat.lt_trans (block_lt o0) hz1) ((hB1.cell (block_lt o0)).trans o0)
  have CI := hide (fun v : Later W1 => later_call (unhide c1 v.val (hB1.trans (v.ok.mono (by omega)))))
  clear hW1
  refine wp_region_later W1 (by kernel_rfl) (by kernel_rfl) (by repeat (first | exact Below.refl _ _ | assumption | refine Below.alloc ?_ (by first | (simp; done) | (simp; omega) | omega) _ | refine Below.setCell ?_ (by first | (simp; done) | (simp; omega) | omega) _ | apply Below.drew | refine Below.trans ?_ (Below.mono (by assumption) (by first | (simp; done) | (simp; omega) | omega)))) ?_; (repeat (first | go_big_quiet_skip | (go_big_quiet_want; (first | ((fail); go_big_quiet_on; simp only [Act.put, List.setIfInBounds_toArray, List.set_cons_zero, List.set_cons_succ]) | (go_big_quiet_op; (first | go_big_quiet_on | go_big_quiet_call ((fail)))))))); refine wpQuiet_nil ?_
  intro w2 hw2
  go_wp2_with fail
  refine (must_yes 183 _).mono ?_
  rintro e w3 ⟨rfl, rfl⟩
  go_wp2_with fail
  refine wp_region_later W1 (by kernel_rfl) (by kernel_rfl) (by repeat (first | exact Below.refl _ _ | assumption | refine Below.alloc ?_ (by first | (simp; done) | (simp; omega) | omega) _ | refine Below.setCell ?_ (by first | (simp; done) | (simp; omega) | omega) _ | apply Below.drew | refine Below.trans ?_ (Below.mono (by assumption) (by first | (simp; done) | (simp; omega) | omega)))) ?_; (repeat (first | go_big_quiet_skip | (go_big_quiet_want; (first | ((fail); go_big_quiet_on; simp only [Act.put, List.setIfInBounds_toArray, List.set_cons_zero, List.set_cons_succ]) | (go_big_quiet_op; (first | go_big_quiet_on | go_big_quiet_call (((go_at_call 101; exact unhide CI _))))))))); refine wpQuiet_nil ?_
  intro w3 hw3
  go_wp2_with fail
  refine (must_no E _).mono ?_
  rintro e w4 ⟨rfl, rfl⟩
  go_wp2
  exact ⟨rfl, rfl, hB1.trans (hw3.mono (by omega))⟩

set_option maxRecDepth 100000 in
set_option maxHeartbeats 4000000 in
theorem of_null (H : IsG T sp len S w L G md)
    (t a : Nat) (z : Nat → Int) (k : Int) (ht : t < T) (ha : z 1 = (a : Int)) (ha6 : a < 6) (ho : G.root t a = 0) :
    Calls Try.prog 90 #[trV L t z, .int .i64 k] w fun e w' => e = panE 183 ∧ Below w.heap.size w w' := by
  have hp : L.ptr (G.root t a) = .pointer none := by unfold Lay.ptr; rw [if_pos ho]
  have r0 := (H.root t a ht ha6).1
  rw [hp] at r0
  clear H ho hp
  have a0 : (0 : Int) ≤ (a : Int) := by omega
  have a1 : (a : Int) < 6 := by omega
  go_enter Try.func90, Try.ntmps90
  go_wp2
  refine wp_gen ?_; intro W1 hW1; have hB1 : Below w.heap.size w W1 := (by rw [hW1]; repeat (first | exact Below.refl _ _ | assumption | refine Below.alloc ?_ (by first | (simp; done) | (simp; omega) | omega) _ | refine Below.setCell ?_ (by first | (simp; done) | (simp; omega) | omega) _ | apply Below.drew | refine Below.trans ?_ (Below.mono (by assumption) (by first | (simp; done) | (simp; omega) | omega)))); have hz1 : w.heap.size < W1.heap.size := (by rw [hW1]; simp <;> omega); have u0 : ∀ v : Later W1, v.val.cell? ⟨w.heap.size, 0 + 1, none⟩ = some (.int .i64 (z 0)) := Later.cell hz1 (by rw [hW1]; go_simp); have u1 : ∀ v : Later W1, v.val.cell? ⟨w.heap.size, 1 + 1, none⟩ = some (.int .i64 (z 1)) := Later.cell hz1 (by rw [hW1]; go_simp); have u2 : ∀ v : Later W1, v.val.cell? ⟨w.heap.size, 2 + 1, none⟩ = some (.int .i64 (z 2)) := Later.cell hz1 (by rw [hW1]; go_simp); have u3 : ∀ v : Later W1, v.val.cell? ⟨w.heap.size, 3 + 1, none⟩ = some (.int .i64 (z 3)) := Later.cell hz1 (by rw [hW1]; go_simp); have u4 : ∀ v : Later W1, v.val.cell? ⟨w.heap.size, 4 + 1, none⟩ = some (.int .i64 (z 4)) := Later.cell hz1 (by rw [hW1]; go_simp); have u5 : ∀ v : Later W1, v.val.cell? ⟨w.heap.size, 5 + 1, none⟩ = some (.int .i64 (z 5)) := Later.cell hz1 (by rw [hW1]; go_simp); have u6 : ∀ v : Later W1, v.val.cell? ⟨w.heap.size, 6 + 1, none⟩ = some (.int .i64 (z 6)) := Later.cell hz1 (by rw [hW1]; go_simp); have u7 : ∀ v : Later W1, v.val.cell? ⟨w.heap.size, 7 + 1, none⟩ = some (.int .i64 (z 7)) := Later.cell hz1 (by rw [hW1]; go_simp); have ug : ∀ v : Later W1, v.val.cell? ⟨w.heap.size, 0, none⟩ = some (.pointer (some ⟨L.g, 0, none⟩)) := Later.cell hz1 (by rw [hW1]; go_simp); have us : ∀ v : Later W1, v.val.cell? ⟨w.heap.size, 9, none⟩ = some (.pointer (some ⟨L.rb, t * 6, none⟩)) := Later.cell hz1 (by rw [hW1]; go_simp)
  have v0 := Later.cell (w := W1) (Nat.lt_trans (block_lt r0) hz1) ((hB1.cell (block_lt r0)).trans r0)
  clear hW1
  refine wp_region_later W1 (by kernel_rfl) (by kernel_rfl) (by repeat (first | exact Below.refl _ _ | assumption | refine Below.alloc ?_ (by first | (simp; done) | (simp; omega) | omega) _ | refine Below.setCell ?_ (by first | (simp; done) | (simp; omega) | omega) _ | apply Below.drew | refine Below.trans ?_ (Below.mono (by assumption) (by first | (simp; done) | (simp; omega) | omega)))) ?_; (repeat (first | go_big_quiet_skip | (go_big_quiet_want; (first | ((fail); go_big_quiet_on; simp only [Act.put, List.setIfInBounds_toArray, List.set_cons_zero, List.set_cons_succ]) | (go_big_quiet_op; (first | go_big_quiet_on | go_big_quiet_call ((fail)))))))); refine wpQuiet_nil ?_
  intro w2 hw2
  go_wp2_with fail
  refine (must_no 183 _).mono ?_
  rintro e w3 ⟨rfl, rfl⟩
  go_wp2
  exact ⟨rfl, rfl, hB1.trans (hw2.mono (by omega))⟩
end
end Go.Proofs.Ytbkaopeajjechaa
