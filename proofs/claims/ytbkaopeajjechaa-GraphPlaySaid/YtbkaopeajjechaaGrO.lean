/- The walks of package graph: what is refused. -/
import Derived.Test.YtbkaopeajjechaaGrN
import Derived.Test.YtbkaopeajjechaaRd
namespace Go.Proofs.Ytbkaopeajjechaa
set_option linter.unusedVariables false
set_option linter.unusedSimpArgs false
open Go.RowKit Go.Maps

section
variable {T : Nat} {sp : Int} {len : Nat} {S : Nat → ByteArray} {w : World} {L : Lay} {G : Gr} {md : Int}

set_option maxRecDepth 100000 in
set_option maxHeartbeats 4000000 in
theorem tGetNull (H : IsG T sp len S w L G md) (t a b : Nat) (z : Nat → Int) (ht : t < T) (ha : z 1 = (a : Int)) (ha6 : a < 6) (hb : z 2 = (b : Int)) (hb6 : b < 6) (ho : G.root t a = 0) :
    Calls Try.prog 56 #[trV L t z] w fun e w' => e = panE (183) ∧ Below w.heap.size w w' := by
  have CO1 := hide (fun W (hW : Below w.heap.size w W) => of_null (H.below hW) t a z 0 ht ha ha6 ho)
  simp only [trV, ha, hb] at CO1
  have rb0 := (H.root t b ht hb6).1
  have b0 : (0 : Int) ≤ (b : Int) := by omega
  have b1 : (b : Int) < 6 := by omega
  clear H
  go_enter Try.func56, Try.ntmps56
  go_wp2
  refine wp_gen ?_; intro W1 hW1; have hB1 : Below w.heap.size w W1 := (by rw [hW1]; repeat (first | exact Below.refl _ _ | assumption | refine Below.alloc ?_ (by first | (simp; done) | (simp; omega) | omega) _ | refine Below.setCell ?_ (by first | (simp; done) | (simp; omega) | omega) _ | apply Below.drew | refine Below.trans ?_ (Below.mono (by assumption) (by first | (simp; done) | (simp; omega) | omega)))); have hz1 : w.heap.size < W1.heap.size := (by rw [hW1]; simp <;> omega); have u0 : ∀ v : Later W1, v.val.cell? ⟨w.heap.size, 0 + 1, none⟩ = some (.int .i64 (z 0)) := Later.cell hz1 (by rw [hW1]; go_simp); have u1 : ∀ v : Later W1, v.val.cell? ⟨w.heap.size, 1 + 1, none⟩ = some (.int .i64 (z 1)) := Later.cell hz1 (by rw [hW1]; go_simp); have u2 : ∀ v : Later W1, v.val.cell? ⟨w.heap.size, 2 + 1, none⟩ = some (.int .i64 (z 2)) := Later.cell hz1 (by rw [hW1]; go_simp); have u3 : ∀ v : Later W1, v.val.cell? ⟨w.heap.size, 3 + 1, none⟩ = some (.int .i64 (z 3)) := Later.cell hz1 (by rw [hW1]; go_simp); have u4 : ∀ v : Later W1, v.val.cell? ⟨w.heap.size, 4 + 1, none⟩ = some (.int .i64 (z 4)) := Later.cell hz1 (by rw [hW1]; go_simp); have u5 : ∀ v : Later W1, v.val.cell? ⟨w.heap.size, 5 + 1, none⟩ = some (.int .i64 (z 5)) := Later.cell hz1 (by rw [hW1]; go_simp); have u6 : ∀ v : Later W1, v.val.cell? ⟨w.heap.size, 6 + 1, none⟩ = some (.int .i64 (z 6)) := Later.cell hz1 (by rw [hW1]; go_simp); have u7 : ∀ v : Later W1, v.val.cell? ⟨w.heap.size, 7 + 1, none⟩ = some (.int .i64 (z 7)) := Later.cell hz1 (by rw [hW1]; go_simp); have ug : ∀ v : Later W1, v.val.cell? ⟨w.heap.size, 0, none⟩ = some (.pointer (some ⟨L.g, 0, none⟩)) := Later.cell hz1 (by rw [hW1]; go_simp); have us : ∀ v : Later W1, v.val.cell? ⟨w.heap.size, 9, none⟩ = some (.pointer (some ⟨L.rb, t * 6, none⟩)) := Later.cell hz1 (by rw [hW1]; go_simp)
  have v1 := Later.cell (w := W1) (Nat.lt_trans (block_lt rb0) hz1) ((hB1.cell (block_lt rb0)).trans rb0)
  have CO := hide (fun v : Later W1 => unhide CO1 v.val (hB1.trans (v.ok.mono (by omega))))
  clear hW1
  refine wp_region_dies_later 6 [false, false, false, false, false, false, true, true, true, true, false, false, false, true, true, false, false, true] W1 (by kernel_rfl) (by kernel_rfl) (by repeat (first | exact Below.refl _ _ | assumption | refine Below.alloc ?_ (by first | (simp; done) | (simp; omega) | omega) _ | refine Below.setCell ?_ (by first | (simp; done) | (simp; omega) | omega) _ | apply Below.drew | refine Below.trans ?_ (Below.mono (by assumption) (by first | (simp; done) | (simp; omega) | omega)))) ?_; simp only [diesOps_f, diesOps_t, diesOps_nil]; (repeat (first | go_big_quiet_skip | (go_big_quiet_want; (first | ((fail); go_big_quiet_on; simp only [Act.put, List.setIfInBounds_toArray, List.set_cons_zero, List.set_cons_succ]) | (go_big_quiet_op; (first | go_big_quiet_on | go_big_quiet_call ((fail)))))))); refine wpQuiet_nil ?_; intro s o9 ho9; simp only [List.getElem?_cons_zero, List.getElem?_cons_succ, Option.some.injEq] at ho9; subst ho9; unfold Oper.wp; go_simp; refine ((unhide CO s)).mono ?_
  rintro e w9 ⟨rfl, hb9⟩
  exact ⟨by simp, fun tmps => ⟨rfl, rfl, hB1.trans ((s.ok.trans (hb9.mono s.ok.size)).mono (by omega))⟩⟩

set_option maxRecDepth 100000 in
set_option maxHeartbeats 4000000 in
theorem tGetBad (H : IsG T sp len S w L G md) (hlen : len ≤ 9223372036854775807) (hS : ∀ i, i < len → (S i).size ≤ 9223372036854775807) (t a b : Nat) (z : Nat → Int) (ht : t < T) (ha : z 1 = (a : Int)) (ha6 : a < 6) (hb : z 2 = (b : Int)) (hb6 : b < 6) (ho : G.root t a ≠ 0) (hi : isE len S (G.sh (G.root t a)) (z 4) 0 ≠ 0) :
    Calls Try.prog 56 #[trV L t z] w fun e w' => e = panE (isE len S (G.sh (G.root t a)) (z 4) 0) ∧ Below w.heap.size w w' := by
  have CO1 := hide (fun W (hW : Below w.heap.size w W) => of_bad (H.below hW) hlen hS t a z 0 ht ha ha6 ho hi)
  simp only [trV, ha, hb] at CO1
  have rb0 := (H.root t b ht hb6).1
  have b0 : (0 : Int) ≤ (b : Int) := by omega
  have b1 : (b : Int) < 6 := by omega
  clear H hS hi
  generalize isE len S (G.sh (G.root t a)) (z 4) 0 = E at *
  go_enter Try.func56, Try.ntmps56
  go_wp2
  refine wp_gen ?_; intro W1 hW1; have hB1 : Below w.heap.size w W1 := (by rw [hW1]; repeat (first | exact Below.refl _ _ | assumption | refine Below.alloc ?_ (by first | (simp; done) | (simp; omega) | omega) _ | refine Below.setCell ?_ (by first | (simp; done) | (simp; omega) | omega) _ | apply Below.drew | refine Below.trans ?_ (Below.mono (by assumption) (by first | (simp; done) | (simp; omega) | omega)))); have hz1 : w.heap.size < W1.heap.size := (by rw [hW1]; simp <;> omega); have u0 : ∀ v : Later W1, v.val.cell? ⟨w.heap.size, 0 + 1, none⟩ = some (.int .i64 (z 0)) := Later.cell hz1 (by rw [hW1]; go_simp); have u1 : ∀ v : Later W1, v.val.cell? ⟨w.heap.size, 1 + 1, none⟩ = some (.int .i64 (z 1)) := Later.cell hz1 (by rw [hW1]; go_simp); have u2 : ∀ v : Later W1, v.val.cell? ⟨w.heap.size, 2 + 1, none⟩ = some (.int .i64 (z 2)) := Later.cell hz1 (by rw [hW1]; go_simp); have u3 : ∀ v : Later W1, v.val.cell? ⟨w.heap.size, 3 + 1, none⟩ = some (.int .i64 (z 3)) := Later.cell hz1 (by rw [hW1]; go_simp); have u4 : ∀ v : Later W1, v.val.cell? ⟨w.heap.size, 4 + 1, none⟩ = some (.int .i64 (z 4)) := Later.cell hz1 (by rw [hW1]; go_simp); have u5 : ∀ v : Later W1, v.val.cell? ⟨w.heap.size, 5 + 1, none⟩ = some (.int .i64 (z 5)) := Later.cell hz1 (by rw [hW1]; go_simp); have u6 : ∀ v : Later W1, v.val.cell? ⟨w.heap.size, 6 + 1, none⟩ = some (.int .i64 (z 6)) := Later.cell hz1 (by rw [hW1]; go_simp); have u7 : ∀ v : Later W1, v.val.cell? ⟨w.heap.size, 7 + 1, none⟩ = some (.int .i64 (z 7)) := Later.cell hz1 (by rw [hW1]; go_simp); have ug : ∀ v : Later W1, v.val.cell? ⟨w.heap.size, 0, none⟩ = some (.pointer (some ⟨L.g, 0, none⟩)) := Later.cell hz1 (by rw [hW1]; go_simp); have us : ∀ v : Later W1, v.val.cell? ⟨w.heap.size, 9, none⟩ = some (.pointer (some ⟨L.rb, t * 6, none⟩)) := Later.cell hz1 (by rw [hW1]; go_simp)
  have v1 := Later.cell (w := W1) (Nat.lt_trans (block_lt rb0) hz1) ((hB1.cell (block_lt rb0)).trans rb0)
  have CO := hide (fun v : Later W1 => unhide CO1 v.val (hB1.trans (v.ok.mono (by omega))))
  clear hW1
  refine wp_region_dies_later 6 [false, false, false, false, false, false, true, true, true, true, false, false, false, true, true, false, false, true] W1 (by kernel_rfl) (by kernel_rfl) (by repeat (first | exact Below.refl _ _ | assumption | refine Below.alloc ?_ (by first | (simp; done) | (simp; omega) | omega) _ | refine Below.setCell ?_ (by first | (simp; done) | (simp; omega) | omega) _ | apply Below.drew | refine Below.trans ?_ (Below.mono (by assumption) (by first | (simp; done) | (simp; omega) | omega)))) ?_; simp only [diesOps_f, diesOps_t, diesOps_nil]; (repeat (first | go_big_quiet_skip | (go_big_quiet_want; (first | ((fail); go_big_quiet_on; simp only [Act.put, List.setIfInBounds_toArray, List.set_cons_zero, List.set_cons_succ]) | (go_big_quiet_op; (first | go_big_quiet_on | go_big_quiet_call ((fail)))))))); refine wpQuiet_nil ?_; intro s o9 ho9; simp only [List.getElem?_cons_zero, List.getElem?_cons_succ, Option.some.injEq] at ho9; subst ho9; unfold Oper.wp; go_simp; refine ((unhide CO s)).mono ?_
  rintro e w9 ⟨rfl, hb9⟩
  exact ⟨by simp, fun tmps => ⟨rfl, rfl, hB1.trans ((s.ok.trans (hb9.mono s.ok.size)).mono (by omega))⟩⟩

set_option maxRecDepth 100000 in
set_option maxHeartbeats 4000000 in
theorem tPutNull (H : IsG T sp len S w L G md) (t a b : Nat) (z : Nat → Int) (ht : t < T) (ha : z 1 = (a : Int)) (ha6 : a < 6) (hb : z 2 = (b : Int)) (hb6 : b < 6) (ho : G.root t a = 0) :
    Calls Try.prog 57 #[trV L t z] w fun e w' => e = panE (183) ∧ Below w.heap.size w w' := by
  have CO1 := hide (fun W (hW : Below w.heap.size w W) => of_null (H.below hW) t a z 0 ht ha ha6 ho)
  simp only [trV, ha, hb] at CO1
  have rb0 := (H.root t b ht hb6).1
  have b0 : (0 : Int) ≤ (b : Int) := by omega
  have b1 : (b : Int) < 6 := by omega
  clear H
  go_enter Try.func57, Try.ntmps57
  go_wp2
  refine wp_gen ?_; intro W1 hW1; have hB1 : Below w.heap.size w W1 := (by rw [hW1]; repeat (first | exact Below.refl _ _ | assumption | refine Below.alloc ?_ (by first | (simp; done) | (simp; omega) | omega) _ | refine Below.setCell ?_ (by first | (simp; done) | (simp; omega) | omega) _ | apply Below.drew | refine Below.trans ?_ (Below.mono (by assumption) (by first | (simp; done) | (simp; omega) | omega)))); have hz1 : w.heap.size < W1.heap.size := (by rw [hW1]; simp <;> omega); have u0 : ∀ v : Later W1, v.val.cell? ⟨w.heap.size, 0 + 1, none⟩ = some (.int .i64 (z 0)) := Later.cell hz1 (by rw [hW1]; go_simp); have u1 : ∀ v : Later W1, v.val.cell? ⟨w.heap.size, 1 + 1, none⟩ = some (.int .i64 (z 1)) := Later.cell hz1 (by rw [hW1]; go_simp); have u2 : ∀ v : Later W1, v.val.cell? ⟨w.heap.size, 2 + 1, none⟩ = some (.int .i64 (z 2)) := Later.cell hz1 (by rw [hW1]; go_simp); have u3 : ∀ v : Later W1, v.val.cell? ⟨w.heap.size, 3 + 1, none⟩ = some (.int .i64 (z 3)) := Later.cell hz1 (by rw [hW1]; go_simp); have u4 : ∀ v : Later W1, v.val.cell? ⟨w.heap.size, 4 + 1, none⟩ = some (.int .i64 (z 4)) := Later.cell hz1 (by rw [hW1]; go_simp); have u5 : ∀ v : Later W1, v.val.cell? ⟨w.heap.size, 5 + 1, none⟩ = some (.int .i64 (z 5)) := Later.cell hz1 (by rw [hW1]; go_simp); have u6 : ∀ v : Later W1, v.val.cell? ⟨w.heap.size, 6 + 1, none⟩ = some (.int .i64 (z 6)) := Later.cell hz1 (by rw [hW1]; go_simp); have u7 : ∀ v : Later W1, v.val.cell? ⟨w.heap.size, 7 + 1, none⟩ = some (.int .i64 (z 7)) := Later.cell hz1 (by rw [hW1]; go_simp); have ug : ∀ v : Later W1, v.val.cell? ⟨w.heap.size, 0, none⟩ = some (.pointer (some ⟨L.g, 0, none⟩)) := Later.cell hz1 (by rw [hW1]; go_simp); have us : ∀ v : Later W1, v.val.cell? ⟨w.heap.size, 9, none⟩ = some (.pointer (some ⟨L.rb, t * 6, none⟩)) := Later.cell hz1 (by rw [hW1]; go_simp)
  have v1 := Later.cell (w := W1) (Nat.lt_trans (block_lt rb0) hz1) ((hB1.cell (block_lt rb0)).trans rb0)
  have CO := hide (fun v : Later W1 => unhide CO1 v.val (hB1.trans (v.ok.mono (by omega))))
  clear hW1
  refine wp_region_dies_later 1 [false, true, true, true, true, false, false, false, false, false, false, false, false, false, false, false, true, true] W1 (by kernel_rfl) (by kernel_rfl) (by repeat (first | exact Below.refl _ _ | assumption | refine Below.alloc ?_ (by first | (simp; done) | (simp; omega) | omega) _ | refine Below.setCell ?_ (by first | (simp; done) | (simp; omega) | omega) _ | apply Below.drew | refine Below.trans ?_ (Below.mono (by assumption) (by first | (simp; done) | (simp; omega) | omega)))) ?_; simp only [diesOps_f, diesOps_t, diesOps_nil]; (repeat (first | go_big_quiet_skip | (go_big_quiet_want; (first | ((fail); go_big_quiet_on; simp only [Act.put, List.setIfInBounds_toArray, List.set_cons_zero, List.set_cons_succ]) | (go_big_quiet_op; (first | go_big_quiet_on | go_big_quiet_call ((fail)))))))); refine wpQuiet_nil ?_; intro s o9 ho9; simp only [List.getElem?_cons_zero, List.getElem?_cons_succ, Option.some.injEq] at ho9; subst ho9; unfold Oper.wp; go_simp; refine ((unhide CO s)).mono ?_
  rintro e w9 ⟨rfl, hb9⟩
  exact ⟨by simp, fun tmps => ⟨rfl, rfl, hB1.trans ((s.ok.trans (hb9.mono s.ok.size)).mono (by omega))⟩⟩

set_option maxRecDepth 100000 in
set_option maxHeartbeats 4000000 in
theorem tPutBad (H : IsG T sp len S w L G md) (hlen : len ≤ 9223372036854775807) (hS : ∀ i, i < len → (S i).size ≤ 9223372036854775807) (t a b : Nat) (z : Nat → Int) (ht : t < T) (ha : z 1 = (a : Int)) (ha6 : a < 6) (hb : z 2 = (b : Int)) (hb6 : b < 6) (ho : G.root t a ≠ 0) (hi : isE len S (G.sh (G.root t a)) (z 4) 0 ≠ 0) :
    Calls Try.prog 57 #[trV L t z] w fun e w' => e = panE (isE len S (G.sh (G.root t a)) (z 4) 0) ∧ Below w.heap.size w w' := by
  have CO1 := hide (fun W (hW : Below w.heap.size w W) => of_bad (H.below hW) hlen hS t a z 0 ht ha ha6 ho hi)
  simp only [trV, ha, hb] at CO1
  have rb0 := (H.root t b ht hb6).1
  have b0 : (0 : Int) ≤ (b : Int) := by omega
  have b1 : (b : Int) < 6 := by omega
  clear H hS hi
  generalize isE len S (G.sh (G.root t a)) (z 4) 0 = E at *
  go_enter Try.func57, Try.ntmps57
  go_wp2
  refine wp_gen ?_; intro W1 hW1; have hB1 : Below w.heap.size w W1 := (by rw [hW1]; repeat (first | exact Below.refl _ _ | assumption | refine Below.alloc ?_ (by first | (simp; done) | (simp; omega) | omega) _ | refine Below.setCell ?_ (by first | (simp; done) | (simp; omega) | omega) _ | apply Below.drew | refine Below.trans ?_ (Below.mono (by assumption) (by first | (simp; done) | (simp; omega) | omega)))); have hz1 : w.heap.size < W1.heap.size := (by rw [hW1]; simp <;> omega); have u0 : ∀ v : Later W1, v.val.cell? ⟨w.heap.size, 0 + 1, none⟩ = some (.int .i64 (z 0)) := Later.cell hz1 (by rw [hW1]; go_simp); have u1 : ∀ v : Later W1, v.val.cell? ⟨w.heap.size, 1 + 1, none⟩ = some (.int .i64 (z 1)) := Later.cell hz1 (by rw [hW1]; go_simp); have u2 : ∀ v : Later W1, v.val.cell? ⟨w.heap.size, 2 + 1, none⟩ = some (.int .i64 (z 2)) := Later.cell hz1 (by rw [hW1]; go_simp); have u3 : ∀ v : Later W1, v.val.cell? ⟨w.heap.size, 3 + 1, none⟩ = some (.int .i64 (z 3)) := Later.cell hz1 (by rw [hW1]; go_simp); have u4 : ∀ v : Later W1, v.val.cell? ⟨w.heap.size, 4 + 1, none⟩ = some (.int .i64 (z 4)) := Later.cell hz1 (by rw [hW1]; go_simp); have u5 : ∀ v : Later W1, v.val.cell? ⟨w.heap.size, 5 + 1, none⟩ = some (.int .i64 (z 5)) := Later.cell hz1 (by rw [hW1]; go_simp); have u6 : ∀ v : Later W1, v.val.cell? ⟨w.heap.size, 6 + 1, none⟩ = some (.int .i64 (z 6)) := Later.cell hz1 (by rw [hW1]; go_simp); have u7 : ∀ v : Later W1, v.val.cell? ⟨w.heap.size, 7 + 1, none⟩ = some (.int .i64 (z 7)) := Later.cell hz1 (by rw [hW1]; go_simp); have ug : ∀ v : Later W1, v.val.cell? ⟨w.heap.size, 0, none⟩ = some (.pointer (some ⟨L.g, 0, none⟩)) := Later.cell hz1 (by rw [hW1]; go_simp); have us : ∀ v : Later W1, v.val.cell? ⟨w.heap.size, 9, none⟩ = some (.pointer (some ⟨L.rb, t * 6, none⟩)) := Later.cell hz1 (by rw [hW1]; go_simp)
  have v1 := Later.cell (w := W1) (Nat.lt_trans (block_lt rb0) hz1) ((hB1.cell (block_lt rb0)).trans rb0)
  have CO := hide (fun v : Later W1 => unhide CO1 v.val (hB1.trans (v.ok.mono (by omega))))
  clear hW1
  refine wp_region_dies_later 1 [false, true, true, true, true, false, false, false, false, false, false, false, false, false, false, false, true, true] W1 (by kernel_rfl) (by kernel_rfl) (by repeat (first | exact Below.refl _ _ | assumption | refine Below.alloc ?_ (by first | (simp; done) | (simp; omega) | omega) _ | refine Below.setCell ?_ (by first | (simp; done) | (simp; omega) | omega) _ | apply Below.drew | refine Below.trans ?_ (Below.mono (by assumption) (by first | (simp; done) | (simp; omega) | omega)))) ?_; simp only [diesOps_f, diesOps_t, diesOps_nil]; (repeat (first | go_big_quiet_skip | (go_big_quiet_want; (first | ((fail); go_big_quiet_on; simp only [Act.put, List.setIfInBounds_toArray, List.set_cons_zero, List.set_cons_succ]) | (go_big_quiet_op; (first | go_big_quiet_on | go_big_quiet_call ((fail)))))))); refine wpQuiet_nil ?_; intro s o9 ho9; simp only [List.getElem?_cons_zero, List.getElem?_cons_succ, Option.some.injEq] at ho9; subst ho9; unfold Oper.wp; go_simp; refine ((unhide CO s)).mono ?_
  rintro e w9 ⟨rfl, hb9⟩
  exact ⟨by simp, fun tmps => ⟨rfl, rfl, hB1.trans ((s.ok.trans (hb9.mono s.ok.size)).mono (by omega))⟩⟩

set_option maxRecDepth 100000 in
set_option maxHeartbeats 4000000 in
theorem tCasNull (H : IsG T sp len S w L G md) (t a b c : Nat) (z : Nat → Int) (ht : t < T) (ha : z 1 = (a : Int)) (ha6 : a < 6) (hb : z 2 = (b : Int)) (hb6 : b < 6) (hc : z 3 = (c : Int)) (hc6 : c < 6) (ho : G.root t a = 0) :
    Calls Try.prog 58 #[trV L t z] w fun e w' => e = panE (183) ∧ Below w.heap.size w w' := by
  have CO1 := hide (fun W (hW : Below w.heap.size w W) => of_null (H.below hW) t a z 0 ht ha ha6 ho)
  simp only [trV, ha, hb, hc] at CO1
  have rb0 := (H.root t b ht hb6).1
  have b0 : (0 : Int) ≤ (b : Int) := by omega
  have b1 : (b : Int) < 6 := by omega
  have rc0 := (H.root t c ht hc6).1
  have c0 : (0 : Int) ≤ (c : Int) := by omega
  have c1 : (c : Int) < 6 := by omega
  clear H
  go_enter Try.func58, Try.ntmps58
  go_wp2
  refine wp_gen ?_; intro W1 hW1; have hB1 : Below w.heap.size w W1 := (by rw [hW1]; repeat (first | exact Below.refl _ _ | assumption | refine Below.alloc ?_ (by first | (simp; done) | (simp; omega) | omega) _ | refine Below.setCell ?_ (by first | (simp; done) | (simp; omega) | omega) _ | apply Below.drew | refine Below.trans ?_ (Below.mono (by assumption) (by first | (simp; done) | (simp; omega) | omega)))); have hz1 : w.heap.size < W1.heap.size := (by rw [hW1]; simp <;> omega); have u0 : ∀ v : Later W1, v.val.cell? ⟨w.heap.size, 0 + 1, none⟩ = some (.int .i64 (z 0)) := Later.cell hz1 (by rw [hW1]; go_simp); have u1 : ∀ v : Later W1, v.val.cell? ⟨w.heap.size, 1 + 1, none⟩ = some (.int .i64 (z 1)) := Later.cell hz1 (by rw [hW1]; go_simp); have u2 : ∀ v : Later W1, v.val.cell? ⟨w.heap.size, 2 + 1, none⟩ = some (.int .i64 (z 2)) := Later.cell hz1 (by rw [hW1]; go_simp); have u3 : ∀ v : Later W1, v.val.cell? ⟨w.heap.size, 3 + 1, none⟩ = some (.int .i64 (z 3)) := Later.cell hz1 (by rw [hW1]; go_simp); have u4 : ∀ v : Later W1, v.val.cell? ⟨w.heap.size, 4 + 1, none⟩ = some (.int .i64 (z 4)) := Later.cell hz1 (by rw [hW1]; go_simp); have u5 : ∀ v : Later W1, v.val.cell? ⟨w.heap.size, 5 + 1, none⟩ = some (.int .i64 (z 5)) := Later.cell hz1 (by rw [hW1]; go_simp); have u6 : ∀ v : Later W1, v.val.cell? ⟨w.heap.size, 6 + 1, none⟩ = some (.int .i64 (z 6)) := Later.cell hz1 (by rw [hW1]; go_simp); have u7 : ∀ v : Later W1, v.val.cell? ⟨w.heap.size, 7 + 1, none⟩ = some (.int .i64 (z 7)) := Later.cell hz1 (by rw [hW1]; go_simp); have ug : ∀ v : Later W1, v.val.cell? ⟨w.heap.size, 0, none⟩ = some (.pointer (some ⟨L.g, 0, none⟩)) := Later.cell hz1 (by rw [hW1]; go_simp); have us : ∀ v : Later W1, v.val.cell? ⟨w.heap.size, 9, none⟩ = some (.pointer (some ⟨L.rb, t * 6, none⟩)) := Later.cell hz1 (by rw [hW1]; go_simp)
  have v1 := Later.cell (w := W1) (Nat.lt_trans (block_lt rb0) hz1) ((hB1.cell (block_lt rb0)).trans rb0)
  have v2 := Later.cell (w := W1) (Nat.lt_trans (block_lt rc0) hz1) ((hB1.cell (block_lt rc0)).trans rc0)
  have CO := hide (fun v : Later W1 => unhide CO1 v.val (hB1.trans (v.ok.mono (by omega))))
  clear hW1
  refine wp_region_dies_later 1 [false, true, true, true, true, false, false, false, true, false, false, false, false, false, false, false, false, false, false, false, false, false, false, false, false, true, true] W1 (by kernel_rfl) (by kernel_rfl) (by repeat (first | exact Below.refl _ _ | assumption | refine Below.alloc ?_ (by first | (simp; done) | (simp; omega) | omega) _ | refine Below.setCell ?_ (by first | (simp; done) | (simp; omega) | omega) _ | apply Below.drew | refine Below.trans ?_ (Below.mono (by assumption) (by first | (simp; done) | (simp; omega) | omega)))) ?_; simp only [diesOps_f, diesOps_t, diesOps_nil]; (repeat (first | go_big_quiet_skip | (go_big_quiet_want; (first | ((fail); go_big_quiet_on; simp only [Act.put, List.setIfInBounds_toArray, List.set_cons_zero, List.set_cons_succ]) | (go_big_quiet_op; (first | go_big_quiet_on | go_big_quiet_call ((fail)))))))); refine wpQuiet_nil ?_; intro s o9 ho9; simp only [List.getElem?_cons_zero, List.getElem?_cons_succ, Option.some.injEq] at ho9; subst ho9; unfold Oper.wp; go_simp; refine ((unhide CO s)).mono ?_
  rintro e w9 ⟨rfl, hb9⟩
  exact ⟨by simp, fun tmps => ⟨rfl, rfl, hB1.trans ((s.ok.trans (hb9.mono s.ok.size)).mono (by omega))⟩⟩

set_option maxRecDepth 100000 in
set_option maxHeartbeats 4000000 in
theorem tCasBad (H : IsG T sp len S w L G md) (hlen : len ≤ 9223372036854775807) (hS : ∀ i, i < len → (S i).size ≤ 9223372036854775807) (t a b c : Nat) (z : Nat → Int) (ht : t < T) (ha : z 1 = (a : Int)) (ha6 : a < 6) (hb : z 2 = (b : Int)) (hb6 : b < 6) (hc : z 3 = (c : Int)) (hc6 : c < 6) (ho : G.root t a ≠ 0) (hi : isE len S (G.sh (G.root t a)) (z 4) 0 ≠ 0) :
    Calls Try.prog 58 #[trV L t z] w fun e w' => e = panE (isE len S (G.sh (G.root t a)) (z 4) 0) ∧ Below w.heap.size w w' := by
  have CO1 := hide (fun W (hW : Below w.heap.size w W) => of_bad (H.below hW) hlen hS t a z 0 ht ha ha6 ho hi)
  simp only [trV, ha, hb, hc] at CO1
  have rb0 := (H.root t b ht hb6).1
  have b0 : (0 : Int) ≤ (b : Int) := by omega
  have b1 : (b : Int) < 6 := by omega
  have rc0 := (H.root t c ht hc6).1
  have c0 : (0 : Int) ≤ (c : Int) := by omega
  have c1 : (c : Int) < 6 := by omega
  clear H hS hi
  generalize isE len S (G.sh (G.root t a)) (z 4) 0 = E at *
  go_enter Try.func58, Try.ntmps58
  go_wp2
  refine wp_gen ?_; intro W1 hW1; have hB1 : Below w.heap.size w W1 := (by rw [hW1]; repeat (first | exact Below.refl _ _ | assumption | refine Below.alloc ?_ (by first | (simp; done) | (simp; omega) | omega) _ | refine Below.setCell ?_ (by first | (simp; done) | (simp; omega) | omega) _ | apply Below.drew | refine Below.trans ?_ (Below.mono (by assumption) (by first | (simp; done) | (simp; omega) | omega)))); have hz1 : w.heap.size < W1.heap.size := (by rw [hW1]; simp <;> omega); have u0 : ∀ v : Later W1, v.val.cell? ⟨w.heap.size, 0 + 1, none⟩ = some (.int .i64 (z 0)) := Later.cell hz1 (by rw [hW1]; go_simp); have u1 : ∀ v : Later W1, v.val.cell? ⟨w.heap.size, 1 + 1, none⟩ = some (.int .i64 (z 1)) := Later.cell hz1 (by rw [hW1]; go_simp); have u2 : ∀ v : Later W1, v.val.cell? ⟨w.heap.size, 2 + 1, none⟩ = some (.int .i64 (z 2)) := Later.cell hz1 (by rw [hW1]; go_simp); have u3 : ∀ v : Later W1, v.val.cell? ⟨w.heap.size, 3 + 1, none⟩ = some (.int .i64 (z 3)) := Later.cell hz1 (by rw [hW1]; go_simp); have u4 : ∀ v : Later W1, v.val.cell? ⟨w.heap.size, 4 + 1, none⟩ = some (.int .i64 (z 4)) := Later.cell hz1 (by rw [hW1]; go_simp); have u5 : ∀ v : Later W1, v.val.cell? ⟨w.heap.size, 5 + 1, none⟩ = some (.int .i64 (z 5)) := Later.cell hz1 (by rw [hW1]; go_simp); have u6 : ∀ v : Later W1, v.val.cell? ⟨w.heap.size, 6 + 1, none⟩ = some (.int .i64 (z 6)) := Later.cell hz1 (by rw [hW1]; go_simp); have u7 : ∀ v : Later W1, v.val.cell? ⟨w.heap.size, 7 + 1, none⟩ = some (.int .i64 (z 7)) := Later.cell hz1 (by rw [hW1]; go_simp); have ug : ∀ v : Later W1, v.val.cell? ⟨w.heap.size, 0, none⟩ = some (.pointer (some ⟨L.g, 0, none⟩)) := Later.cell hz1 (by rw [hW1]; go_simp); have us : ∀ v : Later W1, v.val.cell? ⟨w.heap.size, 9, none⟩ = some (.pointer (some ⟨L.rb, t * 6, none⟩)) := Later.cell hz1 (by rw [hW1]; go_simp)
  have v1 := Later.cell (w := W1) (Nat.lt_trans (block_lt rb0) hz1) ((hB1.cell (block_lt rb0)).trans rb0)
  have v2 := Later.cell (w := W1) (Nat.lt_trans (block_lt rc0) hz1) ((hB1.cell (block_lt rc0)).trans rc0)
  have CO := hide (fun v : Later W1 => unhide CO1 v.val (hB1.trans (v.ok.mono (by omega))))
  clear hW1
  refine wp_region_dies_later 1 [false, true, true, true, true, false, false, false, true, false, false, false, false, false, false, false, false, false, false, false, false, false, false, false, false, true, true] W1 (by kernel_rfl) (by kernel_rfl) (by repeat (first | exact Below.refl _ _ | assumption | refine Below.alloc ?_ (by first | (simp; done) | (simp; omega) | omega) _ | refine Below.setCell ?_ (by first | (simp; done) | (simp; omega) | omega) _ | apply Below.drew | refine Below.trans ?_ (Below.mono (by assumption) (by first | (simp; done) | (simp; omega) | omega)))) ?_; simp only [diesOps_f, diesOps_t, diesOps_nil]; (repeat (first | go_big_quiet_skip | (go_big_quiet_want; (first | ((fail); go_big_quiet_on; simp only [Act.put, List.setIfInBounds_toArray, List.set_cons_zero, List.set_cons_succ]) | (go_big_quiet_op; (first | go_big_quiet_on | go_big_quiet_call ((fail)))))))); refine wpQuiet_nil ?_; intro s o9 ho9; simp only [List.getElem?_cons_zero, List.getElem?_cons_succ, Option.some.injEq] at ho9; subst ho9; unfold Oper.wp; go_simp; refine ((unhide CO s)).mono ?_
  rintro e w9 ⟨rfl, hb9⟩
  exact ⟨by simp, fun tmps => ⟨rfl, rfl, hB1.trans ((s.ok.trans (hb9.mono s.ok.size)).mono (by omega))⟩⟩

set_option maxRecDepth 100000 in
set_option maxHeartbeats 4000000 in
theorem tGetIntNull (H : IsG T sp len S w L G md) (t a : Nat) (z : Nat → Int) (ht : t < T) (ha : z 1 = (a : Int)) (ha6 : a < 6) (ho : G.root t a = 0) :
    Calls Try.prog 59 #[trV L t z] w fun e w' => e = panE (183) ∧ Below w.heap.size w w' := by
  have CO1 := hide (fun W (hW : Below w.heap.size w W) => of_null (H.below hW) t a z 1 ht ha ha6 ho)
  simp only [trV, ha] at CO1
  clear H
  go_enter Try.func59, Try.ntmps59
  go_wp2
  refine wp_gen ?_; intro W1 hW1; have hB1 : Below w.heap.size w W1 := (by rw [hW1]; repeat (first | exact Below.refl _ _ | assumption | refine Below.alloc ?_ (by first | (simp; done) | (simp; omega) | omega) _ | refine Below.setCell ?_ (by first | (simp; done) | (simp; omega) | omega) _ | apply Below.drew | refine Below.trans ?_ (Below.mono (by assumption) (by first | (simp; done) | (simp; omega) | omega)))); have hz1 : w.heap.size < W1.heap.size := (by rw [hW1]; simp <;> omega); have u0 : ∀ v : Later W1, v.val.cell? ⟨w.heap.size, 0 + 1, none⟩ = some (.int .i64 (z 0)) := Later.cell hz1 (by rw [hW1]; go_simp); have u1 : ∀ v : Later W1, v.val.cell? ⟨w.heap.size, 1 + 1, none⟩ = some (.int .i64 (z 1)) := Later.cell hz1 (by rw [hW1]; go_simp); have u2 : ∀ v : Later W1, v.val.cell? ⟨w.heap.size, 2 + 1, none⟩ = some (.int .i64 (z 2)) := Later.cell hz1 (by rw [hW1]; go_simp); have u3 : ∀ v : Later W1, v.val.cell? ⟨w.heap.size, 3 + 1, none⟩ = some (.int .i64 (z 3)) := Later.cell hz1 (by rw [hW1]; go_simp); have u4 : ∀ v : Later W1, v.val.cell? ⟨w.heap.size, 4 + 1, none⟩ = some (.int .i64 (z 4)) := Later.cell hz1 (by rw [hW1]; go_simp); have u5 : ∀ v : Later W1, v.val.cell? ⟨w.heap.size, 5 + 1, none⟩ = some (.int .i64 (z 5)) := Later.cell hz1 (by rw [hW1]; go_simp); have u6 : ∀ v : Later W1, v.val.cell? ⟨w.heap.size, 6 + 1, none⟩ = some (.int .i64 (z 6)) := Later.cell hz1 (by rw [hW1]; go_simp); have u7 : ∀ v : Later W1, v.val.cell? ⟨w.heap.size, 7 + 1, none⟩ = some (.int .i64 (z 7)) := Later.cell hz1 (by rw [hW1]; go_simp); have ug : ∀ v : Later W1, v.val.cell? ⟨w.heap.size, 0, none⟩ = some (.pointer (some ⟨L.g, 0, none⟩)) := Later.cell hz1 (by rw [hW1]; go_simp); have us : ∀ v : Later W1, v.val.cell? ⟨w.heap.size, 9, none⟩ = some (.pointer (some ⟨L.rb, t * 6, none⟩)) := Later.cell hz1 (by rw [hW1]; go_simp)
  have CO := hide (fun v : Later W1 => unhide CO1 v.val (hB1.trans (v.ok.mono (by omega))))
  clear hW1
  refine wp_region_dies_later 1 [false, true, true, true, true, false, false, false, true, true, true, true] W1 (by kernel_rfl) (by kernel_rfl) (by repeat (first | exact Below.refl _ _ | assumption | refine Below.alloc ?_ (by first | (simp; done) | (simp; omega) | omega) _ | refine Below.setCell ?_ (by first | (simp; done) | (simp; omega) | omega) _ | apply Below.drew | refine Below.trans ?_ (Below.mono (by assumption) (by first | (simp; done) | (simp; omega) | omega)))) ?_; simp only [diesOps_f, diesOps_t, diesOps_nil]; (repeat (first | go_big_quiet_skip | (go_big_quiet_want; (first | ((fail); go_big_quiet_on; simp only [Act.put, List.setIfInBounds_toArray, List.set_cons_zero, List.set_cons_succ]) | (go_big_quiet_op; (first | go_big_quiet_on | go_big_quiet_call ((fail)))))))); refine wpQuiet_nil ?_; intro s o9 ho9; simp only [List.getElem?_cons_zero, List.getElem?_cons_succ, Option.some.injEq] at ho9; subst ho9; unfold Oper.wp; go_simp; refine ((unhide CO s)).mono ?_
  rintro e w9 ⟨rfl, hb9⟩
  exact ⟨by simp, fun tmps => ⟨rfl, rfl, hB1.trans ((s.ok.trans (hb9.mono s.ok.size)).mono (by omega))⟩⟩

set_option maxRecDepth 100000 in
set_option maxHeartbeats 4000000 in
theorem tGetIntBad (H : IsG T sp len S w L G md) (hlen : len ≤ 9223372036854775807) (hS : ∀ i, i < len → (S i).size ≤ 9223372036854775807) (t a : Nat) (z : Nat → Int) (ht : t < T) (ha : z 1 = (a : Int)) (ha6 : a < 6) (ho : G.root t a ≠ 0) (hi : isE len S (G.sh (G.root t a)) (z 4) 1 ≠ 0) :
    Calls Try.prog 59 #[trV L t z] w fun e w' => e = panE (isE len S (G.sh (G.root t a)) (z 4) 1) ∧ Below w.heap.size w w' := by
  have CO1 := hide (fun W (hW : Below w.heap.size w W) => of_bad (H.below hW) hlen hS t a z 1 ht ha ha6 ho hi)
  simp only [trV, ha] at CO1
  clear H hS hi
  generalize isE len S (G.sh (G.root t a)) (z 4) 1 = E at *
  go_enter Try.func59, Try.ntmps59
  go_wp2
  refine wp_gen ?_; intro W1 hW1; have hB1 : Below w.heap.size w W1 := (by rw [hW1]; repeat (first | exact Below.refl _ _ | assumption | refine Below.alloc ?_ (by first | (simp; done) | (simp; omega) | omega) _ | refine Below.setCell ?_ (by first | (simp; done) | (simp; omega) | omega) _ | apply Below.drew | refine Below.trans ?_ (Below.mono (by assumption) (by first | (simp; done) | (simp; omega) | omega)))); have hz1 : w.heap.size < W1.heap.size := (by rw [hW1]; simp <;> omega); have u0 : ∀ v : Later W1, v.val.cell? ⟨w.heap.size, 0 + 1, none⟩ = some (.int .i64 (z 0)) := Later.cell hz1 (by rw [hW1]; go_simp); have u1 : ∀ v : Later W1, v.val.cell? ⟨w.heap.size, 1 + 1, none⟩ = some (.int .i64 (z 1)) := Later.cell hz1 (by rw [hW1]; go_simp); have u2 : ∀ v : Later W1, v.val.cell? ⟨w.heap.size, 2 + 1, none⟩ = some (.int .i64 (z 2)) := Later.cell hz1 (by rw [hW1]; go_simp); have u3 : ∀ v : Later W1, v.val.cell? ⟨w.heap.size, 3 + 1, none⟩ = some (.int .i64 (z 3)) := Later.cell hz1 (by rw [hW1]; go_simp); have u4 : ∀ v : Later W1, v.val.cell? ⟨w.heap.size, 4 + 1, none⟩ = some (.int .i64 (z 4)) := Later.cell hz1 (by rw [hW1]; go_simp); have u5 : ∀ v : Later W1, v.val.cell? ⟨w.heap.size, 5 + 1, none⟩ = some (.int .i64 (z 5)) := Later.cell hz1 (by rw [hW1]; go_simp); have u6 : ∀ v : Later W1, v.val.cell? ⟨w.heap.size, 6 + 1, none⟩ = some (.int .i64 (z 6)) := Later.cell hz1 (by rw [hW1]; go_simp); have u7 : ∀ v : Later W1, v.val.cell? ⟨w.heap.size, 7 + 1, none⟩ = some (.int .i64 (z 7)) := Later.cell hz1 (by rw [hW1]; go_simp); have ug : ∀ v : Later W1, v.val.cell? ⟨w.heap.size, 0, none⟩ = some (.pointer (some ⟨L.g, 0, none⟩)) := Later.cell hz1 (by rw [hW1]; go_simp); have us : ∀ v : Later W1, v.val.cell? ⟨w.heap.size, 9, none⟩ = some (.pointer (some ⟨L.rb, t * 6, none⟩)) := Later.cell hz1 (by rw [hW1]; go_simp)
  have CO := hide (fun v : Later W1 => unhide CO1 v.val (hB1.trans (v.ok.mono (by omega))))
  clear hW1
  refine wp_region_dies_later 1 [false, true, true, true, true, false, false, false, true, true, true, true] W1 (by kernel_rfl) (by kernel_rfl) (by repeat (first | exact Below.refl _ _ | assumption | refine Below.alloc ?_ (by first | (simp; done) | (simp; omega) | omega) _ | refine Below.setCell ?_ (by first | (simp; done) | (simp; omega) | omega) _ | apply Below.drew | refine Below.trans ?_ (Below.mono (by assumption) (by first | (simp; done) | (simp; omega) | omega)))) ?_; simp only [diesOps_f, diesOps_t, diesOps_nil]; (repeat (first | go_big_quiet_skip | (go_big_quiet_want; (first | ((fail); go_big_quiet_on; simp only [Act.put, List.setIfInBounds_toArray, List.set_cons_zero, List.set_cons_succ]) | (go_big_quiet_op; (first | go_big_quiet_on | go_big_quiet_call ((fail)))))))); refine wpQuiet_nil ?_; intro s o9 ho9; simp only [List.getElem?_cons_zero, List.getElem?_cons_succ, Option.some.injEq] at ho9; subst ho9; unfold Oper.wp; go_simp; refine ((unhide CO s)).mono ?_
  rintro e w9 ⟨rfl, hb9⟩
  exact ⟨by simp, fun tmps => ⟨rfl, rfl, hB1.trans ((s.ok.trans (hb9.mono s.ok.size)).mono (by omega))⟩⟩

set_option maxRecDepth 100000 in
set_option maxHeartbeats 4000000 in
theorem tPutIntNull (H : IsG T sp len S w L G md) (t a : Nat) (z : Nat → Int) (ht : t < T) (ha : z 1 = (a : Int)) (ha6 : a < 6) (ho : G.root t a = 0) :
    Calls Try.prog 60 #[trV L t z] w fun e w' => e = panE (183) ∧ Below w.heap.size w w' := by
  have CO1 := hide (fun W (hW : Below w.heap.size w W) => of_null (H.below hW) t a z 1 ht ha ha6 ho)
  simp only [trV, ha] at CO1
  clear H
  go_enter Try.func60, Try.ntmps60
  go_wp2
  refine wp_gen ?_; intro W1 hW1; have hB1 : Below w.heap.size w W1 := (by rw [hW1]; repeat (first | exact Below.refl _ _ | assumption | refine Below.alloc ?_ (by first | (simp; done) | (simp; omega) | omega) _ | refine Below.setCell ?_ (by first | (simp; done) | (simp; omega) | omega) _ | apply Below.drew | refine Below.trans ?_ (Below.mono (by assumption) (by first | (simp; done) | (simp; omega) | omega)))); have hz1 : w.heap.size < W1.heap.size := (by rw [hW1]; simp <;> omega); have u0 : ∀ v : Later W1, v.val.cell? ⟨w.heap.size, 0 + 1, none⟩ = some (.int .i64 (z 0)) := Later.cell hz1 (by rw [hW1]; go_simp); have u1 : ∀ v : Later W1, v.val.cell? ⟨w.heap.size, 1 + 1, none⟩ = some (.int .i64 (z 1)) := Later.cell hz1 (by rw [hW1]; go_simp); have u2 : ∀ v : Later W1, v.val.cell? ⟨w.heap.size, 2 + 1, none⟩ = some (.int .i64 (z 2)) := Later.cell hz1 (by rw [hW1]; go_simp); have u3 : ∀ v : Later W1, v.val.cell? ⟨w.heap.size, 3 + 1, none⟩ = some (.int .i64 (z 3)) := Later.cell hz1 (by rw [hW1]; go_simp); have u4 : ∀ v : Later W1, v.val.cell? ⟨w.heap.size, 4 + 1, none⟩ = some (.int .i64 (z 4)) := Later.cell hz1 (by rw [hW1]; go_simp); have u5 : ∀ v : Later W1, v.val.cell? ⟨w.heap.size, 5 + 1, none⟩ = some (.int .i64 (z 5)) := Later.cell hz1 (by rw [hW1]; go_simp); have u6 : ∀ v : Later W1, v.val.cell? ⟨w.heap.size, 6 + 1, none⟩ = some (.int .i64 (z 6)) := Later.cell hz1 (by rw [hW1]; go_simp); have u7 : ∀ v : Later W1, v.val.cell? ⟨w.heap.size, 7 + 1, none⟩ = some (.int .i64 (z 7)) := Later.cell hz1 (by rw [hW1]; go_simp); have ug : ∀ v : Later W1, v.val.cell? ⟨w.heap.size, 0, none⟩ = some (.pointer (some ⟨L.g, 0, none⟩)) := Later.cell hz1 (by rw [hW1]; go_simp); have us : ∀ v : Later W1, v.val.cell? ⟨w.heap.size, 9, none⟩ = some (.pointer (some ⟨L.rb, t * 6, none⟩)) := Later.cell hz1 (by rw [hW1]; go_simp)
  have CO := hide (fun v : Later W1 => unhide CO1 v.val (hB1.trans (v.ok.mono (by omega))))
  clear hW1
  refine wp_region_dies_later 1 [false, true, true, true, true, false, false, false, false, false, false, true, true] W1 (by kernel_rfl) (by kernel_rfl) (by repeat (first | exact Below.refl _ _ | assumption | refine Below.alloc ?_ (by first | (simp; done) | (simp; omega) | omega) _ | refine Below.setCell ?_ (by first | (simp; done) | (simp; omega) | omega) _ | apply Below.drew | refine Below.trans ?_ (Below.mono (by assumption) (by first | (simp; done) | (simp; omega) | omega)))) ?_; simp only [diesOps_f, diesOps_t, diesOps_nil]; (repeat (first | go_big_quiet_skip | (go_big_quiet_want; (first | ((fail); go_big_quiet_on; simp only [Act.put, List.setIfInBounds_toArray, List.set_cons_zero, List.set_cons_succ]) | (go_big_quiet_op; (first | go_big_quiet_on | go_big_quiet_call ((fail)))))))); refine wpQuiet_nil ?_; intro s o9 ho9; simp only [List.getElem?_cons_zero, List.getElem?_cons_succ, Option.some.injEq] at ho9; subst ho9; unfold Oper.wp; go_simp; refine ((unhide CO s)).mono ?_
  rintro e w9 ⟨rfl, hb9⟩
  exact ⟨by simp, fun tmps => ⟨rfl, rfl, hB1.trans ((s.ok.trans (hb9.mono s.ok.size)).mono (by omega))⟩⟩

set_option maxRecDepth 100000 in
set_option maxHeartbeats 4000000 in
theorem tPutIntBad (H : IsG T sp len S w L G md) (hlen : len ≤ 9223372036854775807) (hS : ∀ i, i < len → (S i).size ≤ 9223372036854775807) (t a : Nat) (z : Nat → Int) (ht : t < T) (ha : z 1 = (a : Int)) (ha6 : a < 6) (ho : G.root t a ≠ 0) (hi : isE len S (G.sh (G.root t a)) (z 4) 1 ≠ 0) :
    Calls Try.prog 60 #[trV L t z] w fun e w' => e = panE (isE len S (G.sh (G.root t a)) (z 4) 1) ∧ Below w.heap.size w w' := by
  have CO1 := hide (fun W (hW : Below w.heap.size w W) => of_bad (H.below hW) hlen hS t a z 1 ht ha ha6 ho hi)
  simp only [trV, ha] at CO1
  clear H hS hi
  generalize isE len S (G.sh (G.root t a)) (z 4) 1 = E at *
  go_enter Try.func60, Try.ntmps60
  go_wp2
  refine wp_gen ?_; intro W1 hW1; have hB1 : Below w.heap.size w W1 := (by rw [hW1]; repeat (first | exact Below.refl _ _ | assumption | refine Below.alloc ?_ (by first | (simp; done) | (simp; omega) | omega) _ | refine Below.setCell ?_ (by first | (simp; done) | (simp; omega) | omega) _ | apply Below.drew | refine Below.trans ?_ (Below.mono (by assumption) (by first | (simp; done) | (simp; omega) | omega)))); have hz1 : w.heap.size < W1.heap.size := (by rw [hW1]; simp <;> omega); have u0 : ∀ v : Later W1, v.val.cell? ⟨w.heap.size, 0 + 1, none⟩ = some (.int .i64 (z 0)) := Later.cell hz1 (by rw [hW1]; go_simp); have u1 : ∀ v : Later W1, v.val.cell? ⟨w.heap.size, 1 + 1, none⟩ = some (.int .i64 (z 1)) := Later.cell hz1 (by rw [hW1]; go_simp); have u2 : ∀ v : Later W1, v.val.cell? ⟨w.heap.size, 2 + 1, none⟩ = some (.int .i64 (z 2)) := Later.cell hz1 (by rw [hW1]; go_simp); have u3 : ∀ v : Later W1, v.val.cell? ⟨w.heap.size, 3 + 1, none⟩ = some (.int .i64 (z 3)) := Later.cell hz1 (by rw [hW1]; go_simp); have u4 : ∀ v : Later W1, v.val.cell? ⟨w.heap.size, 4 + 1, none⟩ = some (.int .i64 (z 4)) := Later.cell hz1 (by rw [hW1]; go_simp); have u5 : ∀ v : Later W1, v.val.cell? ⟨w.heap.size, 5 + 1, none⟩ = some (.int .i64 (z 5)) := Later.cell hz1 (by rw [hW1]; go_simp); have u6 : ∀ v : Later W1, v.val.cell? ⟨w.heap.size, 6 + 1, none⟩ = some (.int .i64 (z 6)) := Later.cell hz1 (by rw [hW1]; go_simp); have u7 : ∀ v : Later W1, v.val.cell? ⟨w.heap.size, 7 + 1, none⟩ = some (.int .i64 (z 7)) := Later.cell hz1 (by rw [hW1]; go_simp); have ug : ∀ v : Later W1, v.val.cell? ⟨w.heap.size, 0, none⟩ = some (.pointer (some ⟨L.g, 0, none⟩)) := Later.cell hz1 (by rw [hW1]; go_simp); have us : ∀ v : Later W1, v.val.cell? ⟨w.heap.size, 9, none⟩ = some (.pointer (some ⟨L.rb, t * 6, none⟩)) := Later.cell hz1 (by rw [hW1]; go_simp)
  have CO := hide (fun v : Later W1 => unhide CO1 v.val (hB1.trans (v.ok.mono (by omega))))
  clear hW1
  refine wp_region_dies_later 1 [false, true, true, true, true, false, false, false, false, false, false, true, true] W1 (by kernel_rfl) (by kernel_rfl) (by repeat (first | exact Below.refl _ _ | assumption | refine Below.alloc ?_ (by first | (simp; done) | (simp; omega) | omega) _ | refine Below.setCell ?_ (by first | (simp; done) | (simp; omega) | omega) _ | apply Below.drew | refine Below.trans ?_ (Below.mono (by assumption) (by first | (simp; done) | (simp; omega) | omega)))) ?_; simp only [diesOps_f, diesOps_t, diesOps_nil]; (repeat (first | go_big_quiet_skip | (go_big_quiet_want; (first | ((fail); go_big_quiet_on; simp only [Act.put, List.setIfInBounds_toArray, List.set_cons_zero, List.set_cons_succ]) | (go_big_quiet_op; (first | go_big_quiet_on | go_big_quiet_call ((fail)))))))); refine wpQuiet_nil ?_; intro s o9 ho9; simp only [List.getElem?_cons_zero, List.getElem?_cons_succ, Option.some.injEq] at ho9; subst ho9; unfold Oper.wp; go_simp; refine ((unhide CO s)).mono ?_
  rintro e w9 ⟨rfl, hb9⟩
  exact ⟨by simp, fun tmps => ⟨rfl, rfl, hB1.trans ((s.ok.trans (hb9.mono s.ok.size)).mono (by omega))⟩⟩

set_option maxRecDepth 100000 in
set_option maxHeartbeats 4000000 in
theorem tCasIntNull (H : IsG T sp len S w L G md) (t a : Nat) (z : Nat → Int) (ht : t < T) (ha : z 1 = (a : Int)) (ha6 : a < 6) (ho : G.root t a = 0) :
    Calls Try.prog 61 #[trV L t z] w fun e w' => e = panE (183) ∧ Below w.heap.size w w' := by
  have CO1 := hide (fun W (hW : Below w.heap.size w W) => of_null (H.below hW) t a z 1 ht ha ha6 ho)
  simp only [trV, ha] at CO1
  clear H
  go_enter Try.func61, Try.ntmps61
  go_wp2
  refine wp_gen ?_; intro W1 hW1; have hB1 : Below w.heap.size w W1 := (by rw [hW1]; repeat (first | exact Below.refl _ _ | assumption | refine Below.alloc ?_ (by first | (simp; done) | (simp; omega) | omega) _ | refine Below.setCell ?_ (by first | (simp; done) | (simp; omega) | omega) _ | apply Below.drew | refine Below.trans ?_ (Below.mono (by assumption) (by first | (simp; done) | (simp; omega) | omega)))); have hz1 : w.heap.size < W1.heap.size := (by rw [hW1]; simp <;> omega); have u0 : ∀ v : Later W1, v.val.cell? ⟨w.heap.size, 0 + 1, none⟩ = some (.int .i64 (z 0)) := Later.cell hz1 (by rw [hW1]; go_simp); have u1 : ∀ v : Later W1, v.val.cell? ⟨w.heap.size, 1 + 1, none⟩ = some (.int .i64 (z 1)) := Later.cell hz1 (by rw [hW1]; go_simp); have u2 : ∀ v : Later W1, v.val.cell? ⟨w.heap.size, 2 + 1, none⟩ = some (.int .i64 (z 2)) := Later.cell hz1 (by rw [hW1]; go_simp); have u3 : ∀ v : Later W1, v.val.cell? ⟨w.heap.size, 3 + 1, none⟩ = some (.int .i64 (z 3)) := Later.cell hz1 (by rw [hW1]; go_simp); have u4 : ∀ v : Later W1, v.val.cell? ⟨w.heap.size, 4 + 1, none⟩ = some (.int .i64 (z 4)) := Later.cell hz1 (by rw [hW1]; go_simp); have u5 : ∀ v : Later W1, v.val.cell? ⟨w.heap.size, 5 + 1, none⟩ = some (.int .i64 (z 5)) := Later.cell hz1 (by rw [hW1]; go_simp); have u6 : ∀ v : Later W1, v.val.cell? ⟨w.heap.size, 6 + 1, none⟩ = some (.int .i64 (z 6)) := Later.cell hz1 (by rw [hW1]; go_simp); have u7 : ∀ v : Later W1, v.val.cell? ⟨w.heap.size, 7 + 1, none⟩ = some (.int .i64 (z 7)) := Later.cell hz1 (by rw [hW1]; go_simp); have ug : ∀ v : Later W1, v.val.cell? ⟨w.heap.size, 0, none⟩ = some (.pointer (some ⟨L.g, 0, none⟩)) := Later.cell hz1 (by rw [hW1]; go_simp); have us : ∀ v : Later W1, v.val.cell? ⟨w.heap.size, 9, none⟩ = some (.pointer (some ⟨L.rb, t * 6, none⟩)) := Later.cell hz1 (by rw [hW1]; go_simp)
  have CO := hide (fun v : Later W1 => unhide CO1 v.val (hB1.trans (v.ok.mono (by omega))))
  clear hW1
  refine wp_region_dies_later 1 [false, true, true, true, true, false, false, false, true, false, false, false, false, false, false, true, true] W1 (by kernel_rfl) (by kernel_rfl) (by repeat (first | exact Below.refl _ _ | assumption | refine Below.alloc ?_ (by first | (simp; done) | (simp; omega) | omega) _ | refine Below.setCell ?_ (by first | (simp; done) | (simp; omega) | omega) _ | apply Below.drew | refine Below.trans ?_ (Below.mono (by assumption) (by first | (simp; done) | (simp; omega) | omega)))) ?_; simp only [diesOps_f, diesOps_t, diesOps_nil]; (repeat (first | go_big_quiet_skip | (go_big_quiet_want; (first | ((fail); go_big_quiet_on; simp only [Act.put, List.setIfInBounds_toArray, List.set_cons_zero, List.set_cons_succ]) | (go_big_quiet_op; (first | go_big_quiet_on | go_big_quiet_call ((fail)))))))); refine wpQuiet_nil ?_; intro s o9 ho9; simp only [List.getElem?_cons_zero, List.getElem?_cons_succ, Option.some.injEq] at ho9; subst ho9; unfold Oper.wp; go_simp; refine ((unhide CO s)).mono ?_
  rintro e w9 ⟨rfl, hb9⟩
  exact ⟨by simp, fun tmps => ⟨rfl, rfl, hB1.trans ((s.ok.trans (hb9.mono s.ok.size)).mono (by omega))⟩⟩

set_option maxRecDepth 100000 in
set_option maxHeartbeats 4000000 in
theorem tCasIntBad (H : IsG T sp len S w L G md) (hlen : len ≤ 9223372036854775807) (hS : ∀ i, i < len → (S i).size ≤ 9223372036854775807) (t a : Nat) (z : Nat → Int) (ht : t < T) (ha : z 1 = (a : Int)) (ha6 : a < 6) (ho : G.root t a ≠ 0) (hi : isE len S (G.sh (G.root t a)) (z 4) 1 ≠ 0) :
    Calls Try.prog 61 #[trV L t z] w fun e w' => e = panE (isE len S (G.sh (G.root t a)) (z 4) 1) ∧ Below w.heap.size w w' := by
  have CO1 := hide (fun W (hW : Below w.heap.size w W) => of_bad (H.below hW) hlen hS t a z 1 ht ha ha6 ho hi)
  simp only [trV, ha] at CO1
  clear H hS hi
  generalize isE len S (G.sh (G.root t a)) (z 4) 1 = E at *
  go_enter Try.func61, Try.ntmps61
  go_wp2
  refine wp_gen ?_; intro W1 hW1; have hB1 : Below w.heap.size w W1 := (by rw [hW1]; repeat (first | exact Below.refl _ _ | assumption | refine Below.alloc ?_ (by first | (simp; done) | (simp; omega) | omega) _ | refine Below.setCell ?_ (by first | (simp; done) | (simp; omega) | omega) _ | apply Below.drew | refine Below.trans ?_ (Below.mono (by assumption) (by first | (simp; done) | (simp; omega) | omega)))); have hz1 : w.heap.size < W1.heap.size := (by rw [hW1]; simp <;> omega); have u0 : ∀ v : Later W1, v.val.cell? ⟨w.heap.size, 0 + 1, none⟩ = some (.int .i64 (z 0)) := Later.cell hz1 (by rw [hW1]; go_simp); have u1 : ∀ v : Later W1, v.val.cell? ⟨w.heap.size, 1 + 1, none⟩ = some (.int .i64 (z 1)) := Later.cell hz1 (by rw [hW1]; go_simp); have u2 : ∀ v : Later W1, v.val.cell? ⟨w.heap.size, 2 + 1, none⟩ = some (.int .i64 (z 2)) := Later.cell hz1 (by rw [hW1]; go_simp); have u3 : ∀ v : Later W1, v.val.cell? ⟨w.heap.size, 3 + 1, none⟩ = some (.int .i64 (z 3)) := Later.cell hz1 (by rw [hW1]; go_simp); have u4 : ∀ v : Later W1, v.val.cell? ⟨w.heap.size, 4 + 1, none⟩ = some (.int .i64 (z 4)) := Later.cell hz1 (by rw [hW1]; go_simp); have u5 : ∀ v : Later W1, v.val.cell? ⟨w.heap.size, 5 + 1, none⟩ = some (.int .i64 (z 5)) := Later.cell hz1 (by rw [hW1]; go_simp); have u6 : ∀ v : Later W1, v.val.cell? ⟨w.heap.size, 6 + 1, none⟩ = some (.int .i64 (z 6)) := Later.cell hz1 (by rw [hW1]; go_simp); have u7 : ∀ v : Later W1, v.val.cell? ⟨w.heap.size, 7 + 1, none⟩ = some (.int .i64 (z 7)) := Later.cell hz1 (by rw [hW1]; go_simp); have ug : ∀ v : Later W1, v.val.cell? ⟨w.heap.size, 0, none⟩ = some (.pointer (some ⟨L.g, 0, none⟩)) := Later.cell hz1 (by rw [hW1]; go_simp); have us : ∀ v : Later W1, v.val.cell? ⟨w.heap.size, 9, none⟩ = some (.pointer (some ⟨L.rb, t * 6, none⟩)) := Later.cell hz1 (by rw [hW1]; go_simp)
  have CO := hide (fun v : Later W1 => unhide CO1 v.val (hB1.trans (v.ok.mono (by omega))))
  clear hW1
  refine wp_region_dies_later 1 [false, true, true, true, true, false, false, false, true, false, false, false, false, false, false, true, true] W1 (by kernel_rfl) (by kernel_rfl) (by repeat (first | exact Below.refl _ _ | assumption | refine Below.alloc ?_ (by first | (simp; done) | (simp; omega) | omega) _ | refine Below.setCell ?_ (by first | (simp; done) | (simp; omega) | omega) _ | apply Below.drew | refine Below.trans ?_ (Below.mono (by assumption) (by first | (simp; done) | (simp; omega) | omega)))) ?_; simp only [diesOps_f, diesOps_t, diesOps_nil]; (repeat (first | go_big_quiet_skip | (go_big_quiet_want; (first | ((fail); go_big_quiet_on; simp only [Act.put, List.setIfInBounds_toArray, List.set_cons_zero, List.set_cons_succ]) | (go_big_quiet_op; (first | go_big_quiet_on | go_big_quiet_call ((fail)))))))); refine wpQuiet_nil ?_; intro s o9 ho9; simp only [List.getElem?_cons_zero, List.getElem?_cons_succ, Option.some.injEq] at ho9; subst ho9; unfold Oper.wp; go_simp; refine ((unhide CO s)).mono ?_
  rintro e w9 ⟨rfl, hb9⟩
  exact ⟨by simp, fun tmps => ⟨rfl, rfl, hB1.trans ((s.ok.trans (hb9.mono s.ok.size)).mono (by omega))⟩⟩

end
end Go.Proofs.Ytbkaopeajjechaa
