/- The walks of package graph: what each kind does to fields that hold objects. -/
import Derived.Test.YtbkaopeajjechaaGrM
namespace Go.Proofs.Ytbkaopeajjechaa
set_option linter.unusedVariables false
set_option linter.unusedSimpArgs false
open Go.RowKit Go.Maps

section
variable {T : Nat} {sp : Int} {len : Nat} {S : Nat → ByteArray} {w : World} {L : Lay} {G : Gr} {md : Int}

set_option maxRecDepth 100000 in
set_option maxHeartbeats 4000000 in
theorem tPut (H : IsG T sp len S w L G md) (hlen : len ≤ 9223372036854775807) (hS : ∀ i, i < len → (S i).size ≤ 9223372036854775807) (t a b f o : Nat) (z : Nat → Int) (ht : t < T) (ha : z 1 = (a : Int)) (ha6 : a < 6) (hb : z 2 = (b : Int)) (hb6 : b < 6) (hf : z 4 = (f : Int))
    (hr : G.root t a = o) (ho : o ≠ 0) (hi : isE len S (G.sh o) (z 4) 0 = 0) :
    Calls Try.prog 57 #[trV L t z] w fun e w' => e = .returned (.agg #[.int .i64 0, .bool false, .int .i64 0]) ∧ IsG T sp len S w' L (G.field o f (G.root t b)) md ∧ Chg L.own w w' := by
  have hk := isE_ok hi
  rw [hf] at hk
  simp only [Int.toNat_natCast] at hk
  obtain ⟨-, ⟨-, hfl⟩, hk⟩ := hk
  have hd : L.dom o := by have := H.rinn t a ht ha6; rw [hr] at this; exact this.resolve_left ho
  have hO := H.obj o hd
  have hfl : f < (S (G.sh o)).size := by omega
  obtain ⟨e1, -, t1, -⟩ := hO.pos (by omega)
  have o1 := hO.c1
  have oi := (hO.held f hfl).1
  have fi := (hO.held f hfl).2
  have hinn := hO.inn f hfl
  have lb := block_lt oi
  have ow : L.own (L.hb o) := by unfold Lay.own; rw [t1]; simp
  have owr : L.own L.rb := by unfold Lay.own; rw [H.tr]; simp
  rw [e1] at o1
  have hin : G.held S o f = (G.fl o f).toNat := by unfold Gr.held; rw [if_pos hk]
  rw [hin] at oi hinn
  have rb0 := (H.root t b ht hb6).1
  have fb0 := (H.root t b ht hb6).2
  have lr := block_lt rb0
  have CO1 := hide (fun W (hW : Below w.heap.size w W) => of_ok (H.below hW) hlen hS t a z 0 ht ha ha6 (by rw [hr]; exact ho) (by rw [hr]; exact hi))
  have hp : L.ptr o = .pointer (some ⟨L.adr o, 0, none⟩) := by unfold Lay.ptr; rw [if_neg ho]
  simp only [trV, ha, hb, hf, hr, hp] at CO1
  have f0 : (0 : Int) ≤ (f : Int) := by omega
  have b0 : (0 : Int) ≤ (b : Int) := by omega
  have b1 : (b : Int) < 6 := by omega
  have HU := hide (fun W (hW : Below w.heap.size w W) => (H.below hW).set_held hd hfl hk (H.rinn t b ht hb6))
  obtain ⟨po, hpo⟩ := L.ptr_opt (G.root t b)
  rw [hpo] at HU rb0
  obtain ⟨pq, hpq⟩ := L.ptr_opt (G.fl o f).toNat
  rw [hpq] at oi
  have HH := hide H
  clear H hO hin e1 hS hi t1 hinn hpo hpq
  generalize (S (G.sh o)).size = m at *
  generalize L.adr o = ao at *
  generalize L.hb o = bo at *
  generalize L.hc o = co at *
  have f1 : (f : Int) < (m : Int) := by omega
  go_enter Try.func57, Try.ntmps57
  go_wp2
  refine wp_gen ?_; intro W1 hW1; have hB1 : Below w.heap.size w W1 := (by rw [hW1]; repeat (first | exact Below.refl _ _ | assumption | refine Below.alloc ?_ (by first | (simp; done) | (simp; omega) | omega) _ | refine Below.setCell ?_ (by first | (simp; done) | (simp; omega) | omega) _ | apply Below.drew | refine Below.trans ?_ (Below.mono (by assumption) (by first | (simp; done) | (simp; omega) | omega)))); have hz1 : w.heap.size < W1.heap.size := (by rw [hW1]; simp <;> omega); have u0 : ∀ v : Later W1, v.val.cell? ⟨w.heap.size, 0 + 1, none⟩ = some (.int .i64 (z 0)) := Later.cell hz1 (by rw [hW1]; go_simp); have u1 : ∀ v : Later W1, v.val.cell? ⟨w.heap.size, 1 + 1, none⟩ = some (.int .i64 (z 1)) := Later.cell hz1 (by rw [hW1]; go_simp); have u2 : ∀ v : Later W1, v.val.cell? ⟨w.heap.size, 2 + 1, none⟩ = some (.int .i64 (z 2)) := Later.cell hz1 (by rw [hW1]; go_simp); have u3 : ∀ v : Later W1, v.val.cell? ⟨w.heap.size, 3 + 1, none⟩ = some (.int .i64 (z 3)) := Later.cell hz1 (by rw [hW1]; go_simp); have u4 : ∀ v : Later W1, v.val.cell? ⟨w.heap.size, 4 + 1, none⟩ = some (.int .i64 (z 4)) := Later.cell hz1 (by rw [hW1]; go_simp); have u5 : ∀ v : Later W1, v.val.cell? ⟨w.heap.size, 5 + 1, none⟩ = some (.int .i64 (z 5)) := Later.cell hz1 (by rw [hW1]; go_simp); have u6 : ∀ v : Later W1, v.val.cell? ⟨w.heap.size, 6 + 1, none⟩ = some (.int .i64 (z 6)) := Later.cell hz1 (by rw [hW1]; go_simp); have u7 : ∀ v : Later W1, v.val.cell? ⟨w.heap.size, 7 + 1, none⟩ = some (.int .i64 (z 7)) := Later.cell hz1 (by rw [hW1]; go_simp); have ug : ∀ v : Later W1, v.val.cell? ⟨w.heap.size, 0, none⟩ = some (.pointer (some ⟨L.g, 0, none⟩)) := Later.cell hz1 (by rw [hW1]; go_simp); have us : ∀ v : Later W1, v.val.cell? ⟨w.heap.size, 9, none⟩ = some (.pointer (some ⟨L.rb, t * 6, none⟩)) := Later.cell hz1 (by rw [hW1]; go_simp)
  have v0 := Later.cell (w := W1) (Nat.lt_trans (block_lt o1) hz1) ((hB1.cell (block_lt o1)).trans o1)
  have v1 := Later.cell (w := W1) (Nat.lt_trans (block_lt rb0) hz1) ((hB1.cell (block_lt rb0)).trans rb0)
  have CO := hide (fun v : Later W1 => later_call (unhide CO1 v.val (hB1.trans (v.ok.mono (by omega)))))
  have hz2 : w.heap.size + 1 < W1.heap.size := (by rw [hW1]; simp); have k0 : W1.cell? ⟨w.heap.size + 1, 0, none⟩ = some (.int .i64 0) := (by rw [hW1]; go_simp); have k1 : W1.cell? ⟨w.heap.size + 1, 1, none⟩ = some (.bool false) := (by rw [hW1]; go_simp); have k2 : W1.cell? ⟨w.heap.size + 1, 2, none⟩ = some (.int .i64 0) := (by rw [hW1]; go_simp); have kf0 : W1.frozen? ⟨w.heap.size + 1, 0, none⟩ = false := (by rw [hW1]; go_simp); have kf1 : W1.frozen? ⟨w.heap.size + 1, 1, none⟩ = false := (by rw [hW1]; go_simp); have kf2 : W1.frozen? ⟨w.heap.size + 1, 2, none⟩ = false := (by rw [hW1]; go_simp); clear hW1
  refine wp_region_head_later 17 W1 (by kernel_rfl) (by kernel_rfl) (by repeat (first | exact Below.refl _ _ | assumption | refine Below.alloc ?_ (by first | (simp; done) | (simp; omega) | omega) _ | refine Below.setCell ?_ (by first | (simp; done) | (simp; omega) | omega) _ | apply Below.drew | refine Below.trans ?_ (Below.mono (by assumption) (by first | (simp; done) | (simp; omega) | omega)))) ?_; simp only [List.take_succ_cons, List.take_zero]; (repeat (first | go_big_quiet_skip | (go_big_quiet_want; (first | ((fail); go_big_quiet_on; simp only [Act.put, List.setIfInBounds_toArray, List.set_cons_zero, List.set_cons_succ]) | (go_big_quiet_op; (first | go_big_quiet_on | go_big_quiet_call (((go_at_call 90; exact unhide CO _))))))))); refine wpQuiet_nil ?_; intro U hU; simp only [List.drop_succ_cons, List.drop_zero]
  have k0 := (hU.cell (p := ⟨w.heap.size + 1, 0, none⟩) hz2).trans k0; have k1 := (hU.cell (p := ⟨w.heap.size + 1, 1, none⟩) hz2).trans k1; have k2 := (hU.cell (p := ⟨w.heap.size + 1, 2, none⟩) hz2).trans k2; have kf0 := (hU.frozen (p := ⟨w.heap.size + 1, 0, none⟩) hz2).trans kf0; have kf1 := (hU.frozen (p := ⟨w.heap.size + 1, 1, none⟩) hz2).trans kf1; have kf2 := (hU.frozen (p := ⟨w.heap.size + 1, 2, none⟩) hz2).trans kf2; have hBU : Below w.heap.size w U := hB1.trans (hU.mono (by omega)); have hzU : w.heap.size + 1 < U.heap.size := Nat.lt_of_lt_of_le hz2 hU.size; have hzV : w.heap.size < U.heap.size := Nat.lt_of_succ_lt hzU
  have oi2 := (hBU.cell (block_lt oi)).trans oi
  have fi2 := (hBU.frozen lb).trans fi
  have hne : ¬ bo = w.heap.size + 1 := by omega
  clear v0 v1
  clear u0 u1 u2 u3 u4 u5 u6 u7 ug us
  go_wp2
  refine bodyPost_ret (v := .agg #[.int .i64 0, .bool false, .int .i64 0]) (by simp only [results, Try.results57]; go_simp) rfl ⟨rfl, ?_, ?_⟩
  · exact (unhide HH).far3 (unhide HU _ hBU) _ _ _ (by omega)
  · exact ((Chg.of hBU).set (.inr ow) _).far3 _ _ _ (by omega)

set_option maxRecDepth 100000 in
set_option maxHeartbeats 4000000 in
theorem tGet (H : IsG T sp len S w L G md) (hlen : len ≤ 9223372036854775807) (hS : ∀ i, i < len → (S i).size ≤ 9223372036854775807) (t a b f o : Nat) (z : Nat → Int) (ht : t < T) (ha : z 1 = (a : Int)) (ha6 : a < 6) (hb : z 2 = (b : Int)) (hb6 : b < 6) (hf : z 4 = (f : Int))
    (hr : G.root t a = o) (ho : o ≠ 0) (hi : isE len S (G.sh o) (z 4) 0 = 0) :
    Calls Try.prog 56 #[trV L t z] w fun e w' => e = .returned (.agg #[.int .i64 0, .bool (!(decide ((G.fl o f).toNat = 0))), .int .i64 0]) ∧ IsG T sp len S w' L (G.slot t b (G.fl o f).toNat) md ∧ Chg L.own w w' := by
  have hk := isE_ok hi
  rw [hf] at hk
  simp only [Int.toNat_natCast] at hk
  obtain ⟨-, ⟨-, hfl⟩, hk⟩ := hk
  have hd : L.dom o := by have := H.rinn t a ht ha6; rw [hr] at this; exact this.resolve_left ho
  have hO := H.obj o hd
  have hfl : f < (S (G.sh o)).size := by omega
  obtain ⟨e1, -, t1, -⟩ := hO.pos (by omega)
  have o1 := hO.c1
  have oi := (hO.held f hfl).1
  have fi := (hO.held f hfl).2
  have hinn := hO.inn f hfl
  have lb := block_lt oi
  have ow : L.own (L.hb o) := by unfold Lay.own; rw [t1]; simp
  have owr : L.own L.rb := by unfold Lay.own; rw [H.tr]; simp
  rw [e1] at o1
  have hin : G.held S o f = (G.fl o f).toNat := by unfold Gr.held; rw [if_pos hk]
  rw [hin] at oi hinn
  have rb0 := (H.root t b ht hb6).1
  have fb0 := (H.root t b ht hb6).2
  have lr := block_lt rb0
  have CO1 := hide (fun W (hW : Below w.heap.size w W) => of_ok (H.below hW) hlen hS t a z 0 ht ha ha6 (by rw [hr]; exact ho) (by rw [hr]; exact hi))
  have hp : L.ptr o = .pointer (some ⟨L.adr o, 0, none⟩) := by unfold Lay.ptr; rw [if_neg ho]
  simp only [trV, ha, hb, hf, hr, hp] at CO1
  have f0 : (0 : Int) ≤ (f : Int) := by omega
  have b0 : (0 : Int) ≤ (b : Int) := by omega
  have b1 : (b : Int) < 6 := by omega
  generalize (G.fl o f).toNat = x at *
  have HU := hide (fun W (hW : Below w.heap.size w W) => (H.below hW).set_root ht hb6 hinn)
  obtain ⟨pq, hpq⟩ := L.ptr_opt x
  rw [hpq] at oi HU
  have hD : pq.isSome = (!(decide (x = 0))) := by
    unfold Lay.ptr at hpq
    by_cases e : x = 0
    · rw [if_pos e] at hpq
      injection hpq with hpq
      rw [← hpq]
      simp [e]
    · rw [if_neg e] at hpq
      injection hpq with hpq
      rw [← hpq]
      simp [e]
  have HH := hide H
  clear H hO hin e1 hS hi t1 hinn hpq
  generalize (S (G.sh o)).size = m at *
  generalize L.adr o = ao at *
  generalize L.hb o = bo at *
  generalize L.hc o = co at *
  have f1 : (f : Int) < (m : Int) := by omega
  generalize (!(decide (x = 0))) = D at *
  go_enter Try.func56, Try.ntmps56
  go_wp2
  refine wp_gen ?_; intro W1 hW1; have hB1 : Below w.heap.size w W1 := (by rw [hW1]; repeat (first | exact Below.refl _ _ | assumption | refine Below.alloc ?_ (by first | (simp; done) | (simp; omega) | omega) _ | refine Below.setCell ?_ (by first | (simp; done) | (simp; omega) | omega) _ | apply Below.drew | refine Below.trans ?_ (Below.mono (by assumption) (by first | (simp; done) | (simp; omega) | omega)))); have hz1 : w.heap.size < W1.heap.size := (by rw [hW1]; simp <;> omega); have u0 : ∀ v : Later W1, v.val.cell? ⟨w.heap.size, 0 + 1, none⟩ = some (.int .i64 (z 0)) := Later.cell hz1 (by rw [hW1]; go_simp); have u1 : ∀ v : Later W1, v.val.cell? ⟨w.heap.size, 1 + 1, none⟩ = some (.int .i64 (z 1)) := Later.cell hz1 (by rw [hW1]; go_simp); have u2 : ∀ v : Later W1, v.val.cell? ⟨w.heap.size, 2 + 1, none⟩ = some (.int .i64 (z 2)) := Later.cell hz1 (by rw [hW1]; go_simp); have u3 : ∀ v : Later W1, v.val.cell? ⟨w.heap.size, 3 + 1, none⟩ = some (.int .i64 (z 3)) := Later.cell hz1 (by rw [hW1]; go_simp); have u4 : ∀ v : Later W1, v.val.cell? ⟨w.heap.size, 4 + 1, none⟩ = some (.int .i64 (z 4)) := Later.cell hz1 (by rw [hW1]; go_simp); have u5 : ∀ v : Later W1, v.val.cell? ⟨w.heap.size, 5 + 1, none⟩ = some (.int .i64 (z 5)) := Later.cell hz1 (by rw [hW1]; go_simp); have u6 : ∀ v : Later W1, v.val.cell? ⟨w.heap.size, 6 + 1, none⟩ = some (.int .i64 (z 6)) := Later.cell hz1 (by rw [hW1]; go_simp); have u7 : ∀ v : Later W1, v.val.cell? ⟨w.heap.size, 7 + 1, none⟩ = some (.int .i64 (z 7)) := Later.cell hz1 (by rw [hW1]; go_simp); have ug : ∀ v : Later W1, v.val.cell? ⟨w.heap.size, 0, none⟩ = some (.pointer (some ⟨L.g, 0, none⟩)) := Later.cell hz1 (by rw [hW1]; go_simp); have us : ∀ v : Later W1, v.val.cell? ⟨w.heap.size, 9, none⟩ = some (.pointer (some ⟨L.rb, t * 6, none⟩)) := Later.cell hz1 (by rw [hW1]; go_simp)
  have v0 := Later.cell (w := W1) (Nat.lt_trans (block_lt o1) hz1) ((hB1.cell (block_lt o1)).trans o1)
  have v1 := Later.cell (w := W1) (Nat.lt_trans (block_lt oi) hz1) ((hB1.cell (block_lt oi)).trans oi)
  have CO := hide (fun v : Later W1 => later_call (unhide CO1 v.val (hB1.trans (v.ok.mono (by omega)))))
  have hz2 : w.heap.size + 1 < W1.heap.size := (by rw [hW1]; simp); have k0 : W1.cell? ⟨w.heap.size + 1, 0, none⟩ = some (.int .i64 0) := (by rw [hW1]; go_simp); have k1 : W1.cell? ⟨w.heap.size + 1, 1, none⟩ = some (.bool false) := (by rw [hW1]; go_simp); have k2 : W1.cell? ⟨w.heap.size + 1, 2, none⟩ = some (.int .i64 0) := (by rw [hW1]; go_simp); have kf0 : W1.frozen? ⟨w.heap.size + 1, 0, none⟩ = false := (by rw [hW1]; go_simp); have kf1 : W1.frozen? ⟨w.heap.size + 1, 1, none⟩ = false := (by rw [hW1]; go_simp); have kf2 : W1.frozen? ⟨w.heap.size + 1, 2, none⟩ = false := (by rw [hW1]; go_simp); clear hW1
  refine wp_region_head_later 17 W1 (by kernel_rfl) (by kernel_rfl) (by repeat (first | exact Below.refl _ _ | assumption | refine Below.alloc ?_ (by first | (simp; done) | (simp; omega) | omega) _ | refine Below.setCell ?_ (by first | (simp; done) | (simp; omega) | omega) _ | apply Below.drew | refine Below.trans ?_ (Below.mono (by assumption) (by first | (simp; done) | (simp; omega) | omega)))) ?_; simp only [List.take_succ_cons, List.take_zero]; (repeat (first | go_big_quiet_skip | (go_big_quiet_want; (first | ((fail); go_big_quiet_on; simp only [Act.put, List.setIfInBounds_toArray, List.set_cons_zero, List.set_cons_succ]) | (go_big_quiet_op; (first | go_big_quiet_on | go_big_quiet_call (((go_at_call 90; exact unhide CO _))))))))); refine wpQuiet_nil ?_; intro U hU; simp only [List.drop_succ_cons, List.drop_zero]
  have k0 := (hU.cell (p := ⟨w.heap.size + 1, 0, none⟩) hz2).trans k0; have k1 := (hU.cell (p := ⟨w.heap.size + 1, 1, none⟩) hz2).trans k1; have k2 := (hU.cell (p := ⟨w.heap.size + 1, 2, none⟩) hz2).trans k2; have kf0 := (hU.frozen (p := ⟨w.heap.size + 1, 0, none⟩) hz2).trans kf0; have kf1 := (hU.frozen (p := ⟨w.heap.size + 1, 1, none⟩) hz2).trans kf1; have kf2 := (hU.frozen (p := ⟨w.heap.size + 1, 2, none⟩) hz2).trans kf2; have hBU : Below w.heap.size w U := hB1.trans (hU.mono (by omega)); have hzU : w.heap.size + 1 < U.heap.size := Nat.lt_of_lt_of_le hz2 hU.size; have hzV : w.heap.size < U.heap.size := Nat.lt_of_succ_lt hzU
  have rb2 := (hBU.cell (block_lt rb0)).trans rb0
  have fb2 := (hBU.frozen lr).trans fb0
  have hne : ¬ L.rb = w.heap.size + 1 := by omega
  have hne2 : w.heap.size ≠ L.rb := by omega
  have hne3 : w.heap.size + 1 ≠ L.rb := by omega
  clear v0 v1
  go_wp2
  refine wp_gen ?_
  intro W2 hW2
  have hz3 : w.heap.size < W2.heap.size := by rw [hW2, World.size_setCell]; omega
  have hz4 : L.rb < W2.heap.size := by rw [hW2, World.size_setCell]; omega
  have y2 : ∀ v : Later W2, v.val.cell? ⟨w.heap.size, 3, none⟩ = some (.int .i64 b) := Later.cell hz3 (by rw [hW2, set_other _ (.inl hne2)]; have := u2 ⟨U, hU⟩; rw [hb] at this; exact this)
  have ys : ∀ v : Later W2, v.val.cell? ⟨w.heap.size, 9, none⟩ = some (.pointer (some ⟨L.rb, t * 6, none⟩)) := Later.cell hz3 (by rw [hW2, set_other _ (.inl hne2)]; exact us ⟨U, hU⟩)
  have yr : ∀ v : Later W2, v.val.cell? ⟨L.rb, t * 6 + b, none⟩ = some (.pointer pq) := Later.cell hz4 (by rw [hW2]; exact set_same _ rb2)
  have HG2 : Hid (IsG T sp len S W2 L (G.slot t b x) md) := hide (by rw [hW2]; exact unhide HU _ hBU)
  have hC2 : Chg L.own w W2 := by rw [hW2]; exact (Chg.of hBU).set (.inr owr) _
  have k0 : W2.cell? ⟨w.heap.size + 1, 0, none⟩ = some (.int .i64 0) := by rw [hW2, set_other _ (.inl hne3)]; exact k0
  have k1 : W2.cell? ⟨w.heap.size + 1, 1, none⟩ = some (.bool false) := by rw [hW2, set_other _ (.inl hne3)]; exact k1
  have k2 : W2.cell? ⟨w.heap.size + 1, 2, none⟩ = some (.int .i64 0) := by rw [hW2, set_other _ (.inl hne3)]; exact k2
  have kf0 : W2.frozen? ⟨w.heap.size + 1, 0, none⟩ = false := by rw [hW2, World.frozen?_setCell]; exact kf0
  have kf1 : W2.frozen? ⟨w.heap.size + 1, 1, none⟩ = false := by rw [hW2, World.frozen?_setCell]; exact kf1
  have kf2 : W2.frozen? ⟨w.heap.size + 1, 2, none⟩ = false := by rw [hW2, World.frozen?_setCell]; exact kf2
  have hz5 : w.heap.size + 1 < W2.heap.size := by rw [hW2, World.size_setCell]; omega
  clear hW2 rb2 fb2 rb0 fb0
  clear u0 u1 u2 u3 u4 u5 u6 u7 ug us
  refine wp_region_head_later 10 W2 (by kernel_rfl) (by kernel_rfl) (by repeat (first | exact Below.refl _ _ | assumption | refine Below.alloc ?_ (by first | (simp; done) | (simp; omega) | omega) _ | refine Below.setCell ?_ (by first | (simp; done) | (simp; omega) | omega) _ | apply Below.drew | refine Below.trans ?_ (Below.mono (by assumption) (by first | (simp; done) | (simp; omega) | omega)))) ?_; simp only [List.take_succ_cons, List.take_zero]; (repeat (first | go_big_quiet_skip | (go_big_quiet_want; (first | ((fail); go_big_quiet_on; simp only [Act.put, List.setIfInBounds_toArray, List.set_cons_zero, List.set_cons_succ]) | (go_big_quiet_op; (first | go_big_quiet_on | go_big_quiet_call ((fail)))))))); refine wpQuiet_nil ?_; intro V hV; simp only [List.drop_succ_cons, List.drop_zero]
  have k0 := (hV.cell (p := ⟨w.heap.size + 1, 0, none⟩) hz5).trans k0
  have k1 := (hV.cell (p := ⟨w.heap.size + 1, 1, none⟩) hz5).trans k1
  have k2 := (hV.cell (p := ⟨w.heap.size + 1, 2, none⟩) hz5).trans k2
  have kf0 := (hV.frozen (p := ⟨w.heap.size + 1, 0, none⟩) hz5).trans kf0
  have kf1 := (hV.frozen (p := ⟨w.heap.size + 1, 1, none⟩) hz5).trans kf1
  have kf2 := (hV.frozen (p := ⟨w.heap.size + 1, 2, none⟩) hz5).trans kf2
  clear y2 ys yr
  go_wp2
  refine bodyPost_ret (v := .agg #[.int .i64 0, .bool D, .int .i64 0]) (by simp only [results, Try.results56]; go_simp) rfl ⟨rfl, ?_, ?_⟩
  · exact (unhide HH).far3 ((unhide HG2).below hV) _ _ _ (by omega)
  · exact (hC2.trans (Chg.of hV)).far3 _ _ _ (by omega)

set_option maxRecDepth 100000 in
set_option maxHeartbeats 4000000 in
theorem swapP_any {G' : Gr} (H : IsG T sp len S w L G md) (v old now : Nat) (b f : Nat) (ow : L.own b) (h1 : v = 0 ∨ L.dom v) (h2 : old = 0 ∨ L.dom old) (hc : w.cell? ⟨b, f, none⟩ = some (L.ptr v)) (hf : w.frozen? ⟨b, f, none⟩ = false) (h' : v = old → IsG T sp len S (w.setCell ⟨b, f, none⟩ (L.ptr now)) L G' md) :
    Calls Try.prog 91 #[.pointer (some ⟨b, f, none⟩), L.ptr old, L.ptr now] w fun e w' => e = .returned (.agg #[.int .i64 0, .bool (decide (v = old)), .int .i64 0]) ∧ IsG T sp len S w' L (if v = old then G' else G) md ∧ Chg L.own w w' := by
  have lb := block_lt hc
  have HE : Hid (∀ W, Below w.heap.size w W → (binOp .neq 71 (L.ptr v) (L.ptr old)).run Try.prog W = .ok (.bool (!(decide (v = old)))) W) := hide (fun W hW => (H.below hW).neqB h1 h2)
  have HH := hide H
  have H2 := hide h'
  clear H h'
  obtain ⟨pv, hpv⟩ := L.ptr_opt v
  obtain ⟨pold, hpold⟩ := L.ptr_opt old
  obtain ⟨pn, hpn⟩ := L.ptr_opt now
  rw [hpv, hpold] at HE
  rw [hpv] at hc
  rw [hpn] at H2
  rw [hpold, hpn]
  have he := unhide HE (w.alloc (.cells #[.int .i64 0, .bool false, .int .i64 0] 39)) (by repeat (first | exact Below.refl _ _ | assumption | refine Below.alloc ?_ (by first | (simp; done) | (simp; omega) | omega) _ | refine Below.setCell ?_ (by first | (simp; done) | (simp; omega) | omega) _ | apply Below.drew | refine Below.trans ?_ (Below.mono (by assumption) (by first | (simp; done) | (simp; omega) | omega))))
  clear HE
  by_cases e : v = old
  · rw [if_pos e, show decide (v = old) = true by simpa using e]
    rw [show decide (v = old) = true by simpa using e] at he
    have H3 := hide (unhide H2 e)
    go_enter Try.func91, Try.ntmps91
    go_wp2
    refine bodyPost_ret (v := .agg #[.int .i64 0, .bool true, .int .i64 0]) (by simp only [results, Try.results91]; go_simp) rfl ⟨rfl, ?_, ?_⟩
    · exact (unhide H3).below (by repeat (first | exact Below.refl _ _ | assumption | refine Below.alloc ?_ (by first | (simp; done) | (simp; omega) | omega) _ | refine Below.setCell ?_ (by first | (simp; done) | (simp; omega) | omega) _ | apply Below.drew | refine Below.trans ?_ (Below.mono (by assumption) (by first | (simp; done) | (simp; omega) | omega))))
    · exact ((Chg.refl _ _).set (.inr ow) _).alloc _
  · rw [if_neg e, show decide (v = old) = false by simpa using e]
    rw [show decide (v = old) = false by simpa using e] at he
    go_enter Try.func91, Try.ntmps91
    go_wp2
    refine bodyPost_ret (v := .agg #[.int .i64 0, .bool false, .int .i64 0]) (by simp only [results, Try.results91]; go_simp) rfl ⟨rfl, ?_, ?_⟩
    · exact (unhide HH).below (by repeat (first | exact Below.refl _ _ | assumption | refine Below.alloc ?_ (by first | (simp; done) | (simp; omega) | omega) _ | refine Below.setCell ?_ (by first | (simp; done) | (simp; omega) | omega) _ | apply Below.drew | refine Below.trans ?_ (Below.mono (by assumption) (by first | (simp; done) | (simp; omega) | omega))))
    · exact (Chg.refl _ _).alloc _

set_option maxRecDepth 100000 in
set_option maxHeartbeats 4000000 in
theorem tCas (H : IsG T sp len S w L G md) (hlen : len ≤ 9223372036854775807) (hS : ∀ i, i < len → (S i).size ≤ 9223372036854775807) (t a b f o : Nat) (z : Nat → Int) (ht : t < T) (ha : z 1 = (a : Int)) (ha6 : a < 6) (hb : z 2 = (b : Int)) (hb6 : b < 6) (c : Nat) (hc : z 3 = (c : Int)) (hc6 : c < 6) (hf : z 4 = (f : Int))
    (hr : G.root t a = o) (ho : o ≠ 0) (hi : isE len S (G.sh o) (z 4) 0 = 0) :
    Calls Try.prog 58 #[trV L t z] w fun e w' => e = .returned (.agg #[.int .i64 0, .bool (decide ((G.fl o f).toNat = G.root t b)), .int .i64 0]) ∧ IsG T sp len S w' L (if (G.fl o f).toNat = G.root t b then G.field o f (G.root t c) else G) md ∧ Chg L.own w w' := by
  have hk := isE_ok hi
  rw [hf] at hk
  simp only [Int.toNat_natCast] at hk
  obtain ⟨-, ⟨-, hfl⟩, hk⟩ := hk
  have hd : L.dom o := by have := H.rinn t a ht ha6; rw [hr] at this; exact this.resolve_left ho
  have hO := H.obj o hd
  have hfl : f < (S (G.sh o)).size := by omega
  obtain ⟨e1, -, t1, -⟩ := hO.pos (by omega)
  have o1 := hO.c1
  have oi := (hO.held f hfl).1
  have fi := (hO.held f hfl).2
  have hinn := hO.inn f hfl
  have lb := block_lt oi
  have ow : L.own (L.hb o) := by unfold Lay.own; rw [t1]; simp
  have owr : L.own L.rb := by unfold Lay.own; rw [H.tr]; simp
  rw [e1] at o1
  have hin : G.held S o f = (G.fl o f).toNat := by unfold Gr.held; rw [if_pos hk]
  rw [hin] at oi hinn
  have rb0 := (H.root t b ht hb6).1
  have fb0 := (H.root t b ht hb6).2
  have lr := block_lt rb0
  have CO1 := hide (fun W (hW : Below w.heap.size w W) => of_ok (H.below hW) hlen hS t a z 0 ht ha ha6 (by rw [hr]; exact ho) (by rw [hr]; exact hi))
  have hp : L.ptr o = .pointer (some ⟨L.adr o, 0, none⟩) := by unfold Lay.ptr; rw [if_neg ho]
  simp only [trV, ha, hb, hc, hf, hr, hp] at CO1
  have f0 : (0 : Int) ≤ (f : Int) := by omega
  have b0 : (0 : Int) ≤ (b : Int) := by omega
  have b1 : (b : Int) < 6 := by omega
  have rc0 := (H.root t c ht hc6).1
  have c0 : (0 : Int) ≤ (c : Int) := by omega
  have c1 : (c : Int) < 6 := by omega
  have CS := hide (fun W (hW : Below w.heap.size w W) => swapP_any (H.below hW) (G.fl o f).toNat (G.root t b) (G.root t c) (L.hb o) f ow hinn (H.rinn t b ht hb6) ((hW.cell lb).trans oi) ((hW.frozen lb).trans fi) (fun _ => (H.below hW).set_held hd hfl hk (H.rinn t c ht hc6)))
  have HH := hide H
  generalize (if (G.fl o f).toNat = G.root t b then G.field o f (G.root t c) else G) = G2 at *
  generalize decide ((G.fl o f).toNat = G.root t b) = D at *
  obtain ⟨pb, hpb⟩ := L.ptr_opt (G.root t b)
  obtain ⟨pc, hpc⟩ := L.ptr_opt (G.root t c)
  rw [hpb, hpc] at CS
  rw [hpb] at rb0
  rw [hpc] at rc0
  clear H hO hin e1 hS hi t1 hinn hpb hpc oi
  generalize (S (G.sh o)).size = m at *
  generalize L.adr o = ao at *
  generalize L.hb o = bo at *
  generalize L.hc o = co at *
  have f1 : (f : Int) < (m : Int) := by omega
  go_enter Try.func58, Try.ntmps58
  go_wp2
  refine wp_gen ?_; intro W1 hW1; have hB1 : Below w.heap.size w W1 := (by rw [hW1]; repeat (first | exact Below.refl _ _ | assumption | refine Below.alloc ?_ (by first | (simp; done) | (simp; omega) | omega) _ | refine Below.setCell ?_ (by first | (simp; done) | (simp; omega) | omega) _ | apply Below.drew | refine Below.trans ?_ (Below.mono (by assumption) (by first | (simp; done) | (simp; omega) | omega)))); have hz1 : w.heap.size < W1.heap.size := (by rw [hW1]; simp <;> omega); have u0 : ∀ v : Later W1, v.val.cell? ⟨w.heap.size, 0 + 1, none⟩ = some (.int .i64 (z 0)) := Later.cell hz1 (by rw [hW1]; go_simp); have u1 : ∀ v : Later W1, v.val.cell? ⟨w.heap.size, 1 + 1, none⟩ = some (.int .i64 (z 1)) := Later.cell hz1 (by rw [hW1]; go_simp); have u2 : ∀ v : Later W1, v.val.cell? ⟨w.heap.size, 2 + 1, none⟩ = some (.int .i64 (z 2)) := Later.cell hz1 (by rw [hW1]; go_simp); have u3 : ∀ v : Later W1, v.val.cell? ⟨w.heap.size, 3 + 1, none⟩ = some (.int .i64 (z 3)) := Later.cell hz1 (by rw [hW1]; go_simp); have u4 : ∀ v : Later W1, v.val.cell? ⟨w.heap.size, 4 + 1, none⟩ = some (.int .i64 (z 4)) := Later.cell hz1 (by rw [hW1]; go_simp); have u5 : ∀ v : Later W1, v.val.cell? ⟨w.heap.size, 5 + 1, none⟩ = some (.int .i64 (z 5)) := Later.cell hz1 (by rw [hW1]; go_simp); have u6 : ∀ v : Later W1, v.val.cell? ⟨w.heap.size, 6 + 1, none⟩ = some (.int .i64 (z 6)) := Later.cell hz1 (by rw [hW1]; go_simp); have u7 : ∀ v : Later W1, v.val.cell? ⟨w.heap.size, 7 + 1, none⟩ = some (.int .i64 (z 7)) := Later.cell hz1 (by rw [hW1]; go_simp); have ug : ∀ v : Later W1, v.val.cell? ⟨w.heap.size, 0, none⟩ = some (.pointer (some ⟨L.g, 0, none⟩)) := Later.cell hz1 (by rw [hW1]; go_simp); have us : ∀ v : Later W1, v.val.cell? ⟨w.heap.size, 9, none⟩ = some (.pointer (some ⟨L.rb, t * 6, none⟩)) := Later.cell hz1 (by rw [hW1]; go_simp)
  have v0 := Later.cell (w := W1) (Nat.lt_trans (block_lt o1) hz1) ((hB1.cell (block_lt o1)).trans o1)
  have v1 := Later.cell (w := W1) (Nat.lt_trans (block_lt rb0) hz1) ((hB1.cell (block_lt rb0)).trans rb0)
  have v2 := Later.cell (w := W1) (Nat.lt_trans (block_lt rc0) hz1) ((hB1.cell (block_lt rc0)).trans rc0)
  have CO := hide (fun v : Later W1 => later_call (unhide CO1 v.val (hB1.trans (v.ok.mono (by omega)))))
  have hz2 : w.heap.size + 1 < W1.heap.size := (by rw [hW1]; simp); have k0 : W1.cell? ⟨w.heap.size + 1, 0, none⟩ = some (.int .i64 0) := (by rw [hW1]; go_simp); have k1 : W1.cell? ⟨w.heap.size + 1, 1, none⟩ = some (.bool false) := (by rw [hW1]; go_simp); have k2 : W1.cell? ⟨w.heap.size + 1, 2, none⟩ = some (.int .i64 0) := (by rw [hW1]; go_simp); have kf0 : W1.frozen? ⟨w.heap.size + 1, 0, none⟩ = false := (by rw [hW1]; go_simp); have kf1 : W1.frozen? ⟨w.heap.size + 1, 1, none⟩ = false := (by rw [hW1]; go_simp); have kf2 : W1.frozen? ⟨w.heap.size + 1, 2, none⟩ = false := (by rw [hW1]; go_simp); clear hW1
  refine wp_region_head_later 25 W1 (by kernel_rfl) (by kernel_rfl) (by repeat (first | exact Below.refl _ _ | assumption | refine Below.alloc ?_ (by first | (simp; done) | (simp; omega) | omega) _ | refine Below.setCell ?_ (by first | (simp; done) | (simp; omega) | omega) _ | apply Below.drew | refine Below.trans ?_ (Below.mono (by assumption) (by first | (simp; done) | (simp; omega) | omega)))) ?_; simp only [List.take_succ_cons, List.take_zero]; (repeat (first | go_big_quiet_skip | (go_big_quiet_want; (first | ((fail); go_big_quiet_on; simp only [Act.put, List.setIfInBounds_toArray, List.set_cons_zero, List.set_cons_succ]) | (go_big_quiet_op; (first | go_big_quiet_on | go_big_quiet_call (((go_at_call 90; exact unhide CO _))))))))); refine wpQuiet_nil ?_; intro U hU; simp only [List.drop_succ_cons, List.drop_zero]
  have k0 := (hU.cell (p := ⟨w.heap.size + 1, 0, none⟩) hz2).trans k0; have k1 := (hU.cell (p := ⟨w.heap.size + 1, 1, none⟩) hz2).trans k1; have k2 := (hU.cell (p := ⟨w.heap.size + 1, 2, none⟩) hz2).trans k2; have kf0 := (hU.frozen (p := ⟨w.heap.size + 1, 0, none⟩) hz2).trans kf0; have kf1 := (hU.frozen (p := ⟨w.heap.size + 1, 1, none⟩) hz2).trans kf1; have kf2 := (hU.frozen (p := ⟨w.heap.size + 1, 2, none⟩) hz2).trans kf2; have hBU : Below w.heap.size w U := hB1.trans (hU.mono (by omega)); have hzU : w.heap.size + 1 < U.heap.size := Nat.lt_of_lt_of_le hz2 hU.size; have hzV : w.heap.size < U.heap.size := Nat.lt_of_succ_lt hzU
  clear v0 v1 v2
  clear u0 u1 u2 u3 u4 u5 u6 u7 ug us
  go_wp2_with fail
  refine (unhide CS _ hBU).mono ?_
  rintro e w2 ⟨rfl, hG2, hC2⟩
  have HG2 := hide hG2
  have hn : ¬ L.own (w.heap.size + 1) := fun h => by have := (unhide HH).lt _ h; omega
  have k0 := (hC2.cell hzU hn).trans k0
  have k1 := (hC2.cell hzU hn).trans k1
  have k2 := (hC2.cell hzU hn).trans k2
  have kf0 := (hC2.frozen hzU hn).trans kf0
  have kf1 := (hC2.frozen hzU hn).trans kf1
  have kf2 := (hC2.frozen hzU hn).trans kf2
  clear hG2
  go_wp2
  refine bodyPost_ret (v := .agg #[.int .i64 0, .bool D, .int .i64 0]) (by simp only [results, Try.results58]; go_simp) rfl ⟨rfl, ?_, ?_⟩
  · exact (unhide HH).far3 (unhide HG2) _ _ _ (by omega)
  · exact ((Chg.of hBU).trans hC2).far3 _ _ _ (by omega)
end
end Go.Proofs.Ytbkaopeajjechaa
