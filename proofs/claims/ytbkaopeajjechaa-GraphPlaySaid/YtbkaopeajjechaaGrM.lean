/- The walks of package graph: what each kind does to fields. -/
import Derived.Test.YtbkaopeajjechaaGrL
namespace Go.Proofs.Ytbkaopeajjechaa
set_option linter.unusedVariables false
set_option linter.unusedSimpArgs false
open Go.RowKit Go.Maps

theorem isE_ok {len : Nat} {S : Nat → ByteArray} {n f k : Int} (h : isE len S n f k = 0) : (0 ≤ n ∧ n < len) ∧ (0 ≤ f ∧ f < (S n.toNat).size) ∧ kd (S n.toNat) f.toNat = k := by
  have hk : kindE len S n f = 0 := by
    unfold isE at h
    split at h
    · rename_i hh; exact hh.1
    · exact h
  have hv : kindV len S n f = k := by
    unfold isE at h
    rw [hk] at h
    by_cases e : kindV len S n f = k
    · exact e
    · rw [if_pos ⟨rfl, e⟩] at h; omega
  have ho : ofE len S n = 0 := by
    unfold kindE at hk
    split at hk
    · assumption
    · exact hk
  have hl := ofE_len ho
  unfold kindE at hk
  rw [if_pos ho] at hk
  unfold kindV at hv
  split at hk
  · rename_i hh
    refine ⟨⟨hl.1, hl.2.1⟩, hh, ?_⟩
    rw [if_pos (by unfold kindE; rw [if_pos ho, if_pos hh])] at hv
    exact hv
  · omega

section
variable {T : Nat} {sp : Int} {len : Nat} {S : Nat → ByteArray} {w : World} {L : Lay} {G : Gr} {md : Int}

set_option maxRecDepth 100000 in
set_option maxHeartbeats 4000000 in
theorem tGetInt (H : IsG T sp len S w L G md) (hlen : len ≤ 9223372036854775807) (hS : ∀ i, i < len → (S i).size ≤ 9223372036854775807) (t a f o : Nat) (z : Nat → Int) (ht : t < T) (ha : z 1 = (a : Int)) (ha6 : a < 6) (hf : z 4 = (f : Int))
    (hr : G.root t a = o) (ho : o ≠ 0) (hi : isE len S (G.sh o) (z 4) 1 = 0) :
    Calls Try.prog 59 #[trV L t z] w fun e w' => e = .returned (.agg #[.int .i64 0, .bool false, .int .i64 (G.fl o f)]) ∧ IsG T sp len S w' L G md ∧ Chg L.own w w' := by
  have hk := isE_ok hi
  rw [hf] at hk
  simp only [Int.toNat_natCast] at hk
  obtain ⟨-, ⟨-, hfl⟩, hk⟩ := hk
  have hd : L.dom o := by have := H.rinn t a ht ha6; rw [hr] at this; exact this.resolve_left ho
  have hO := H.obj o hd
  have hfl : f < (S (G.sh o)).size := by omega
  obtain ⟨-, e2, -, -⟩ := hO.pos (by omega)
  have o2 := hO.c2
  have oi := (hO.ints f hfl).1
  rw [e2] at o2
  have hin : G.ints S o f = G.fl o f := by unfold Gr.ints; rw [if_neg (by omega)]
  rw [hin] at oi
  have CO1 := hide (fun W (hW : Below w.heap.size w W) => of_ok (H.below hW) hlen hS t a z 1 ht ha ha6 (by rw [hr]; exact ho) (by rw [hr]; exact hi))
  have hp : L.ptr o = .pointer (some ⟨L.adr o, 0, none⟩) := by unfold Lay.ptr; rw [if_neg ho]
  simp only [trV, ha, hf, hr, hp] at CO1
  have HU := hide (fun W (hW : Below w.heap.size w W) => H.below hW)
  have HH := hide H
  clear H hO hin e2 hS hi
  generalize G.fl o f = V at *
  generalize (S (G.sh o)).size = m at *
  generalize L.adr o = ao at *
  generalize L.ib o = bo at *
  generalize L.ic o = co at *
  have f0 : (0 : Int) ≤ (f : Int) := by omega
  have f1 : (f : Int) < (m : Int) := by omega
  go_enter Try.func59, Try.ntmps59
  go_wp2
  refine wp_gen ?_; intro W1 hW1; have hB1 : Below w.heap.size w W1 := (by rw [hW1]; repeat (first | exact Below.refl _ _ | assumption | refine Below.alloc ?_ (by first | (simp; done) | (simp; omega) | omega) _ | refine Below.setCell ?_ (by first | (simp; done) | (simp; omega) | omega) _ | apply Below.drew | refine Below.trans ?_ (Below.mono (by assumption) (by first | (simp; done) | (simp; omega) | omega)))); have hz1 : w.heap.size < W1.heap.size := (by rw [hW1]; simp <;> omega); have u0 : ∀ v : Later W1, v.val.cell? ⟨w.heap.size, 0 + 1, none⟩ = some (.int .i64 (z 0)) := Later.cell hz1 (by rw [hW1]; go_simp); have u1 : ∀ v : Later W1, v.val.cell? ⟨w.heap.size, 1 + 1, none⟩ = some (.int .i64 (z 1)) := Later.cell hz1 (by rw [hW1]; go_simp); have u2 : ∀ v : Later W1, v.val.cell? ⟨w.heap.size, 2 + 1, none⟩ = some (.int .i64 (z 2)) := Later.cell hz1 (by rw [hW1]; go_simp); have u3 : ∀ v : Later W1, v.val.cell? ⟨w.heap.size, 3 + 1, none⟩ = some (.int .i64 (z 3)) := Later.cell hz1 (by rw [hW1]; go_simp); have u4 : ∀ v : Later W1, v.val.cell? ⟨w.heap.size, 4 + 1, none⟩ = some (.int .i64 (z 4)) := Later.cell hz1 (by rw [hW1]; go_simp); have u5 : ∀ v : Later W1, v.val.cell? ⟨w.heap.size, 5 + 1, none⟩ = some (.int .i64 (z 5)) := Later.cell hz1 (by rw [hW1]; go_simp); have u6 : ∀ v : Later W1, v.val.cell? ⟨w.heap.size, 6 + 1, none⟩ = some (.int .i64 (z 6)) := Later.cell hz1 (by rw [hW1]; go_simp); have u7 : ∀ v : Later W1, v.val.cell? ⟨w.heap.size, 7 + 1, none⟩ = some (.int .i64 (z 7)) := Later.cell hz1 (by rw [hW1]; go_simp); have ug : ∀ v : Later W1, v.val.cell? ⟨w.heap.size, 0, none⟩ = some (.pointer (some ⟨L.g, 0, none⟩)) := Later.cell hz1 (by rw [hW1]; go_simp); have us : ∀ v : Later W1, v.val.cell? ⟨w.heap.size, 9, none⟩ = some (.pointer (some ⟨L.rb, t * 6, none⟩)) := Later.cell hz1 (by rw [hW1]; go_simp)
  have v0 := Later.cell (w := W1) (Nat.lt_trans (block_lt o2) hz1) ((hB1.cell (block_lt o2)).trans o2)
  have v1 := Later.cell (w := W1) (Nat.lt_trans (block_lt oi) hz1) ((hB1.cell (block_lt oi)).trans oi)
  have CO := hide (fun v : Later W1 => later_call (unhide CO1 v.val (hB1.trans (v.ok.mono (by omega)))))
  have hz2 : w.heap.size + 1 < W1.heap.size := (by rw [hW1]; simp); have k0 : W1.cell? ⟨w.heap.size + 1, 0, none⟩ = some (.int .i64 0) := (by rw [hW1]; go_simp); have k1 : W1.cell? ⟨w.heap.size + 1, 1, none⟩ = some (.bool false) := (by rw [hW1]; go_simp); have k2 : W1.cell? ⟨w.heap.size + 1, 2, none⟩ = some (.int .i64 0) := (by rw [hW1]; go_simp); have kf0 : W1.frozen? ⟨w.heap.size + 1, 0, none⟩ = false := (by rw [hW1]; go_simp); have kf1 : W1.frozen? ⟨w.heap.size + 1, 1, none⟩ = false := (by rw [hW1]; go_simp); have kf2 : W1.frozen? ⟨w.heap.size + 1, 2, none⟩ = false := (by rw [hW1]; go_simp); clear hW1
  refine wp_region_head_later 11 W1 (by kernel_rfl) (by kernel_rfl) (by repeat (first | exact Below.refl _ _ | assumption | refine Below.alloc ?_ (by first | (simp; done) | (simp; omega) | omega) _ | refine Below.setCell ?_ (by first | (simp; done) | (simp; omega) | omega) _ | apply Below.drew | refine Below.trans ?_ (Below.mono (by assumption) (by first | (simp; done) | (simp; omega) | omega)))) ?_; simp only [List.take_succ_cons, List.take_zero]; (repeat (first | go_big_quiet_skip | (go_big_quiet_want; (first | ((fail); go_big_quiet_on; simp only [Act.put, List.setIfInBounds_toArray, List.set_cons_zero, List.set_cons_succ]) | (go_big_quiet_op; (first | go_big_quiet_on | go_big_quiet_call (((go_at_call 90; exact unhide CO _))))))))); refine wpQuiet_nil ?_; intro U hU; simp only [List.drop_succ_cons, List.drop_zero]
  have k0 := (hU.cell (p := ⟨w.heap.size + 1, 0, none⟩) hz2).trans k0; have k1 := (hU.cell (p := ⟨w.heap.size + 1, 1, none⟩) hz2).trans k1; have k2 := (hU.cell (p := ⟨w.heap.size + 1, 2, none⟩) hz2).trans k2; have kf0 := (hU.frozen (p := ⟨w.heap.size + 1, 0, none⟩) hz2).trans kf0; have kf1 := (hU.frozen (p := ⟨w.heap.size + 1, 1, none⟩) hz2).trans kf1; have kf2 := (hU.frozen (p := ⟨w.heap.size + 1, 2, none⟩) hz2).trans kf2; have hBU : Below w.heap.size w U := hB1.trans (hU.mono (by omega)); have hzU : w.heap.size + 1 < U.heap.size := Nat.lt_of_lt_of_le hz2 hU.size; have hzV : w.heap.size < U.heap.size := Nat.lt_of_succ_lt hzU
  clear v0 v1
  clear u0 u1 u2 u3 u4 u5 u6 u7 ug us
  go_wp2
  refine bodyPost_ret (v := .agg #[.int .i64 0, .bool false, .int .i64 V]) (by simp only [results, Try.results59]; go_simp) rfl ⟨rfl, ?_, ?_⟩
  · exact (unhide HH).far3 (unhide HU _ hBU) _ _ _ (by omega)
  · exact (Chg.of hBU).far3 _ _ _ (by omega)

set_option maxRecDepth 100000 in
set_option maxHeartbeats 4000000 in
theorem tPutInt (H : IsG T sp len S w L G md) (hlen : len ≤ 9223372036854775807) (hS : ∀ i, i < len → (S i).size ≤ 9223372036854775807) (t a f o : Nat) (z : Nat → Int) (ht : t < T) (ha : z 1 = (a : Int)) (ha6 : a < 6) (hf : z 4 = (f : Int))
    (hr : G.root t a = o) (ho : o ≠ 0) (hi : isE len S (G.sh o) (z 4) 1 = 0) :
    Calls Try.prog 60 #[trV L t z] w fun e w' => e = .returned (.agg #[.int .i64 0, .bool false, .int .i64 0]) ∧ IsG T sp len S w' L (G.field o f (z 6)) md ∧ Chg L.own w w' := by
  have hk := isE_ok hi
  rw [hf] at hk
  simp only [Int.toNat_natCast] at hk
  obtain ⟨-, ⟨-, hfl⟩, hk⟩ := hk
  have hd : L.dom o := by have := H.rinn t a ht ha6; rw [hr] at this; exact this.resolve_left ho
  have hO := H.obj o hd
  have hfl : f < (S (G.sh o)).size := by omega
  obtain ⟨-, e2, -, t2⟩ := hO.pos (by omega)
  have o2 := hO.c2
  have oi := (hO.ints f hfl).1
  have fi := (hO.ints f hfl).2
  have lb := block_lt oi
  have ow : L.own (L.ib o) := by unfold Lay.own; rw [t2]; simp
  rw [e2] at o2
  have hin : G.ints S o f = G.fl o f := by unfold Gr.ints; rw [if_neg (by omega)]
  rw [hin] at oi
  have CO1 := hide (fun W (hW : Below w.heap.size w W) => of_ok (H.below hW) hlen hS t a z 1 ht ha ha6 (by rw [hr]; exact ho) (by rw [hr]; exact hi))
  have hp : L.ptr o = .pointer (some ⟨L.adr o, 0, none⟩) := by unfold Lay.ptr; rw [if_neg ho]
  simp only [trV, ha, hf, hr, hp] at CO1
  have HU := hide (fun W (hW : Below w.heap.size w W) => (H.below hW).set_int (v := z 6) hd hfl (by omega))
  have HH := hide H
  clear H hO hin e2 hS hi t2
  generalize G.fl o f = V at *
  generalize (S (G.sh o)).size = m at *
  generalize L.adr o = ao at *
  generalize L.ib o = bo at *
  generalize L.ic o = co at *
  have f0 : (0 : Int) ≤ (f : Int) := by omega
  have f1 : (f : Int) < (m : Int) := by omega
  go_enter Try.func60, Try.ntmps60
  go_wp2
  refine wp_gen ?_; intro W1 hW1; have hB1 : Below w.heap.size w W1 := (by rw [hW1]; repeat (first | exact Below.refl _ _ | assumption | refine Below.alloc ?_ (by first | (simp; done) | (simp; omega) | omega) _ | refine Below.setCell ?_ (by first | (simp; done) | (simp; omega) | omega) _ | apply Below.drew | refine Below.trans ?_ (Below.mono (by assumption) (by first | (simp; done) | (simp; omega) | omega)))); have hz1 : w.heap.size < W1.heap.size := (by rw [hW1]; simp <;> omega); have u0 : ∀ v : Later W1, v.val.cell? ⟨w.heap.size, 0 + 1, none⟩ = some (.int .i64 (z 0)) := Later.cell hz1 (by rw [hW1]; go_simp); have u1 : ∀ v : Later W1, v.val.cell? ⟨w.heap.size, 1 + 1, none⟩ = some (.int .i64 (z 1)) := Later.cell hz1 (by rw [hW1]; go_simp); have u2 : ∀ v : Later W1, v.val.cell? ⟨w.heap.size, 2 + 1, none⟩ = some (.int .i64 (z 2)) := Later.cell hz1 (by rw [hW1]; go_simp); have u3 : ∀ v : Later W1, v.val.cell? ⟨w.heap.size, 3 + 1, none⟩ = some (.int .i64 (z 3)) := Later.cell hz1 (by rw [hW1]; go_simp); have u4 : ∀ v : Later W1, v.val.cell? ⟨w.heap.size, 4 + 1, none⟩ = some (.int .i64 (z 4)) := Later.cell hz1 (by rw [hW1]; go_simp); have u5 : ∀ v : Later W1, v.val.cell? ⟨w.heap.size, 5 + 1, none⟩ = some (.int .i64 (z 5)) := Later.cell hz1 (by rw [hW1]; go_simp); have u6 : ∀ v : Later W1, v.val.cell? ⟨w.heap.size, 6 + 1, none⟩ = some (.int .i64 (z 6)) := Later.cell hz1 (by rw [hW1]; go_simp); have u7 : ∀ v : Later W1, v.val.cell? ⟨w.heap.size, 7 + 1, none⟩ = some (.int .i64 (z 7)) := Later.cell hz1 (by rw [hW1]; go_simp); have ug : ∀ v : Later W1, v.val.cell? ⟨w.heap.size, 0, none⟩ = some (.pointer (some ⟨L.g, 0, none⟩)) := Later.cell hz1 (by rw [hW1]; go_simp); have us : ∀ v : Later W1, v.val.cell? ⟨w.heap.size, 9, none⟩ = some (.pointer (some ⟨L.rb, t * 6, none⟩)) := Later.cell hz1 (by rw [hW1]; go_simp)
  have v0 := Later.cell (w := W1) (Nat.lt_trans (block_lt o2) hz1) ((hB1.cell (block_lt o2)).trans o2)
  have CO := hide (fun v : Later W1 => later_call (unhide CO1 v.val (hB1.trans (v.ok.mono (by omega)))))
  have hz2 : w.heap.size + 1 < W1.heap.size := (by rw [hW1]; simp); have k0 : W1.cell? ⟨w.heap.size + 1, 0, none⟩ = some (.int .i64 0) := (by rw [hW1]; go_simp); have k1 : W1.cell? ⟨w.heap.size + 1, 1, none⟩ = some (.bool false) := (by rw [hW1]; go_simp); have k2 : W1.cell? ⟨w.heap.size + 1, 2, none⟩ = some (.int .i64 0) := (by rw [hW1]; go_simp); have kf0 : W1.frozen? ⟨w.heap.size + 1, 0, none⟩ = false := (by rw [hW1]; go_simp); have kf1 : W1.frozen? ⟨w.heap.size + 1, 1, none⟩ = false := (by rw [hW1]; go_simp); have kf2 : W1.frozen? ⟨w.heap.size + 1, 2, none⟩ = false := (by rw [hW1]; go_simp); clear hW1
  refine wp_region_head_later 12 W1 (by kernel_rfl) (by kernel_rfl) (by repeat (first | exact Below.refl _ _ | assumption | refine Below.alloc ?_ (by first | (simp; done) | (simp; omega) | omega) _ | refine Below.setCell ?_ (by first | (simp; done) | (simp; omega) | omega) _ | apply Below.drew | refine Below.trans ?_ (Below.mono (by assumption) (by first | (simp; done) | (simp; omega) | omega)))) ?_; simp only [List.take_succ_cons, List.take_zero]; (repeat (first | go_big_quiet_skip | (go_big_quiet_want; (first | ((fail); go_big_quiet_on; simp only [Act.put, List.setIfInBounds_toArray, List.set_cons_zero, List.set_cons_succ]) | (go_big_quiet_op; (first | go_big_quiet_on | go_big_quiet_call (((go_at_call 90; exact unhide CO _))))))))); refine wpQuiet_nil ?_; intro U hU; simp only [List.drop_succ_cons, List.drop_zero]
  have k0 := (hU.cell (p := ⟨w.heap.size + 1, 0, none⟩) hz2).trans k0; have k1 := (hU.cell (p := ⟨w.heap.size + 1, 1, none⟩) hz2).trans k1; have k2 := (hU.cell (p := ⟨w.heap.size + 1, 2, none⟩) hz2).trans k2; have kf0 := (hU.frozen (p := ⟨w.heap.size + 1, 0, none⟩) hz2).trans kf0; have kf1 := (hU.frozen (p := ⟨w.heap.size + 1, 1, none⟩) hz2).trans kf1; have kf2 := (hU.frozen (p := ⟨w.heap.size + 1, 2, none⟩) hz2).trans kf2; have hBU : Below w.heap.size w U := hB1.trans (hU.mono (by omega)); have hzU : w.heap.size + 1 < U.heap.size := Nat.lt_of_lt_of_le hz2 hU.size; have hzV : w.heap.size < U.heap.size := Nat.lt_of_succ_lt hzU
  have oi2 := (hBU.cell (block_lt oi)).trans oi
  have fi2 := (hBU.frozen lb).trans fi
  have hne : ¬ bo = w.heap.size + 1 := by omega
  clear v0
  clear u0 u1 u2 u3 u4 u5 u6 u7 ug us
  go_wp2
  refine bodyPost_ret (v := .agg #[.int .i64 0, .bool false, .int .i64 0]) (by simp only [results, Try.results60]; go_simp) rfl ⟨rfl, ?_, ?_⟩
  · exact (unhide HH).far3 (unhide HU _ hBU) _ _ _ (by omega)
  · exact ((Chg.of hBU).set (.inr ow) _).far3 _ _ _ (by omega)

set_option maxRecDepth 100000 in
set_option maxHeartbeats 4000000 in
theorem swapI_any {G' : Gr} (H : IsG T sp len S w L G md) (v old now : Int) (b f : Nat) (ow : L.own b) (hc : w.cell? ⟨b, f, none⟩ = some (.int .i64 v)) (hf : w.frozen? ⟨b, f, none⟩ = false) (h' : v = old → IsG T sp len S (w.setCell ⟨b, f, none⟩ (.int .i64 now)) L G' md) :
    Calls Try.prog 92 #[.pointer (some ⟨b, f, none⟩), .int .i64 old, .int .i64 now] w fun e w' => e = .returned (.agg #[.int .i64 0, .bool (decide (v = old)), .int .i64 0]) ∧ IsG T sp len S w' L (if v = old then G' else G) md ∧ Chg L.own w w' := by
  have lb := block_lt hc
  have HH := hide H
  clear H
  by_cases e : v = old
  · rw [if_pos e, show decide (v = old) = true by simpa using e]
    have H2 := hide (h' e)
    subst e
    clear h'
    go_enter Try.func92, Try.ntmps92
    go_wp2
    refine bodyPost_ret (v := .agg #[.int .i64 0, .bool true, .int .i64 0]) (by simp only [results, Try.results92]; go_simp) rfl ⟨rfl, ?_, ?_⟩
    · exact (unhide H2).below (by repeat (first | exact Below.refl _ _ | assumption | refine Below.alloc ?_ (by first | (simp; done) | (simp; omega) | omega) _ | refine Below.setCell ?_ (by first | (simp; done) | (simp; omega) | omega) _ | apply Below.drew | refine Below.trans ?_ (Below.mono (by assumption) (by first | (simp; done) | (simp; omega) | omega))))
    · exact ((Chg.refl _ _).set (.inr ow) _).alloc _
  · rw [if_neg e, show decide (v = old) = false by simpa using e]
    have e2 : (v != old) = true := by simpa using e
    clear h'
    go_enter Try.func92, Try.ntmps92
    go_wp2
    refine bodyPost_ret (v := .agg #[.int .i64 0, .bool false, .int .i64 0]) (by simp only [results, Try.results92]; go_simp) rfl ⟨rfl, ?_, ?_⟩
    · exact (unhide HH).below (by repeat (first | exact Below.refl _ _ | assumption | refine Below.alloc ?_ (by first | (simp; done) | (simp; omega) | omega) _ | refine Below.setCell ?_ (by first | (simp; done) | (simp; omega) | omega) _ | apply Below.drew | refine Below.trans ?_ (Below.mono (by assumption) (by first | (simp; done) | (simp; omega) | omega))))
    · exact (Chg.refl _ _).alloc _

set_option maxRecDepth 100000 in
set_option maxHeartbeats 4000000 in
theorem tCasInt (H : IsG T sp len S w L G md) (hlen : len ≤ 9223372036854775807) (hS : ∀ i, i < len → (S i).size ≤ 9223372036854775807) (t a f o : Nat) (z : Nat → Int) (ht : t < T) (ha : z 1 = (a : Int)) (ha6 : a < 6) (hf : z 4 = (f : Int))
    (hr : G.root t a = o) (ho : o ≠ 0) (hi : isE len S (G.sh o) (z 4) 1 = 0) :
    Calls Try.prog 61 #[trV L t z] w fun e w' => e = .returned (.agg #[.int .i64 0, .bool (decide (G.fl o f = z 6)), .int .i64 0]) ∧ IsG T sp len S w' L (if G.fl o f = z 6 then G.field o f (z 7) else G) md ∧ Chg L.own w w' := by
  have hk := isE_ok hi
  rw [hf] at hk
  simp only [Int.toNat_natCast] at hk
  obtain ⟨-, ⟨-, hfl⟩, hk⟩ := hk
  have hd : L.dom o := by have := H.rinn t a ht ha6; rw [hr] at this; exact this.resolve_left ho
  have hO := H.obj o hd
  have hfl : f < (S (G.sh o)).size := by omega
  obtain ⟨-, e2, -, t2⟩ := hO.pos (by omega)
  have o2 := hO.c2
  have oi := (hO.ints f hfl).1
  have fi := (hO.ints f hfl).2
  have lb := block_lt oi
  have ow : L.own (L.ib o) := by unfold Lay.own; rw [t2]; simp
  rw [e2] at o2
  have hin : G.ints S o f = G.fl o f := by unfold Gr.ints; rw [if_neg (by omega)]
  rw [hin] at oi
  have CO1 := hide (fun W (hW : Below w.heap.size w W) => of_ok (H.below hW) hlen hS t a z 1 ht ha ha6 (by rw [hr]; exact ho) (by rw [hr]; exact hi))
  have hp : L.ptr o = .pointer (some ⟨L.adr o, 0, none⟩) := by unfold Lay.ptr; rw [if_neg ho]
  simp only [trV, ha, hf, hr, hp] at CO1
  have CS := hide (fun W (hW : Below w.heap.size w W) => swapI_any (H.below hW) (G.fl o f) (z 6) (z 7) (L.ib o) f ow ((hW.cell lb).trans oi) ((hW.frozen lb).trans fi) (fun _ => (H.below hW).set_int (v := z 7) hd hfl (by omega)))
  have HH := hide H
  clear H hO hin e2 hS hi t2
  generalize (if G.fl o f = z 6 then G.field o f (z 7) else G) = G2 at *
  generalize decide (G.fl o f = z 6) = D at *
  generalize G.fl o f = V at *
  generalize (S (G.sh o)).size = m at *
  generalize L.adr o = ao at *
  generalize L.ib o = bo at *
  generalize L.ic o = co at *
  have f0 : (0 : Int) ≤ (f : Int) := by omega
  have f1 : (f : Int) < (m : Int) := by omega
  go_enter Try.func61, Try.ntmps61
  go_wp2
  refine wp_gen ?_; intro W1 hW1; have hB1 : Below w.heap.size w W1 := (by rw [hW1]; repeat (first | exact Below.refl _ _ | assumption | refine Below.alloc ?_ (by first | (simp; done) | (simp; omega) | omega) _ | refine Below.setCell ?_ (by first | (simp; done) | (simp; omega) | omega) _ | apply Below.drew | refine Below.trans ?_ (Below.mono (by assumption) (by first | (simp; done) | (simp; omega) | omega)))); have hz1 : w.heap.size < W1.heap.size := (by rw [hW1]; simp <;> omega); have u0 : ∀ v : Later W1, v.val.cell? ⟨w.heap.size, 0 + 1, none⟩ = some (.int .i64 (z 0)) := Later.cell hz1 (by rw [hW1]; go_simp); have u1 : ∀ v : Later W1, v.val.cell? ⟨w.heap.size, 1 + 1, none⟩ = some (.int .i64 (z 1)) := Later.cell hz1 (by rw [hW1]; go_simp); have u2 : ∀ v : Later W1, v.val.cell? ⟨w.heap.size, 2 + 1, none⟩ = some (.int .i64 (z 2)) := Later.cell hz1 (by rw [hW1]; go_simp); have u3 : ∀ v : Later W1, v.val.cell? ⟨w.heap.size, 3 + 1, none⟩ = some (.int .i64 (z 3)) := Later.cell hz1 (by rw [hW1]; go_simp); have u4 : ∀ v : Later W1, v.val.cell? ⟨w.heap.size, 4 + 1, none⟩ = some (.int .i64 (z 4)) := Later.cell hz1 (by rw [hW1]; go_simp); have u5 : ∀ v : Later W1, v.val.cell? ⟨w.heap.size, 5 + 1, none⟩ = some (.int .i64 (z 5)) := Later.cell hz1 (by rw [hW1]; go_simp); have u6 : ∀ v : Later W1, v.val.cell? ⟨w.heap.size, 6 + 1, none⟩ = some (.int .i64 (z 6)) := Later.cell hz1 (by rw [hW1]; go_simp); have u7 : ∀ v : Later W1, v.val.cell? ⟨w.heap.size, 7 + 1, none⟩ = some (.int .i64 (z 7)) := Later.cell hz1 (by rw [hW1]; go_simp); have ug : ∀ v : Later W1, v.val.cell? ⟨w.heap.size, 0, none⟩ = some (.pointer (some ⟨L.g, 0, none⟩)) := Later.cell hz1 (by rw [hW1]; go_simp); have us : ∀ v : Later W1, v.val.cell? ⟨w.heap.size, 9, none⟩ = some (.pointer (some ⟨L.rb, t * 6, none⟩)) := Later.cell hz1 (by rw [hW1]; go_simp)
  have v0 := Later.cell (w := W1) (Nat.lt_trans (block_lt o2) hz1) ((hB1.cell (block_lt o2)).trans o2)
  have CO := hide (fun v : Later W1 => later_call (unhide CO1 v.val (hB1.trans (v.ok.mono (by omega)))))
  have hz2 : w.heap.size + 1 < W1.heap.size := (by rw [hW1]; simp); have k0 : W1.cell? ⟨w.heap.size + 1, 0, none⟩ = some (.int .i64 0) := (by rw [hW1]; go_simp); have k1 : W1.cell? ⟨w.heap.size + 1, 1, none⟩ = some (.bool false) := (by rw [hW1]; go_simp); have k2 : W1.cell? ⟨w.heap.size + 1, 2, none⟩ = some (.int .i64 0) := (by rw [hW1]; go_simp); have kf0 : W1.frozen? ⟨w.heap.size + 1, 0, none⟩ = false := (by rw [hW1]; go_simp); have kf1 : W1.frozen? ⟨w.heap.size + 1, 1, none⟩ = false := (by rw [hW1]; go_simp); have kf2 : W1.frozen? ⟨w.heap.size + 1, 2, none⟩ = false := (by rw [hW1]; go_simp); clear hW1
  refine wp_region_head_later 15 W1 (by kernel_rfl) (by kernel_rfl) (by repeat (first | exact Below.refl _ _ | assumption | refine Below.alloc ?_ (by first | (simp; done) | (simp; omega) | omega) _ | refine Below.setCell ?_ (by first | (simp; done) | (simp; omega) | omega) _ | apply Below.drew | refine Below.trans ?_ (Below.mono (by assumption) (by first | (simp; done) | (simp; omega) | omega)))) ?_; simp only [List.take_succ_cons, List.take_zero]; (repeat (first | go_big_quiet_skip | (go_big_quiet_want; (first | ((fail); go_big_quiet_on; simp only [Act.put, List.setIfInBounds_toArray, List.set_cons_zero, List.set_cons_succ]) | (go_big_quiet_op; (first | go_big_quiet_on | go_big_quiet_call (((go_at_call 90; exact unhide CO _))))))))); refine wpQuiet_nil ?_; intro U hU; simp only [List.drop_succ_cons, List.drop_zero]
  have k0 := (hU.cell (p := ⟨w.heap.size + 1, 0, none⟩) hz2).trans k0; have k1 := (hU.cell (p := ⟨w.heap.size + 1, 1, none⟩) hz2).trans k1; have k2 := (hU.cell (p := ⟨w.heap.size + 1, 2, none⟩) hz2).trans k2; have kf0 := (hU.frozen (p := ⟨w.heap.size + 1, 0, none⟩) hz2).trans kf0; have kf1 := (hU.frozen (p := ⟨w.heap.size + 1, 1, none⟩) hz2).trans kf1; have kf2 := (hU.frozen (p := ⟨w.heap.size + 1, 2, none⟩) hz2).trans kf2; have hBU : Below w.heap.size w U := hB1.trans (hU.mono (by omega)); have hzU : w.heap.size + 1 < U.heap.size := Nat.lt_of_lt_of_le hz2 hU.size; have hzV : w.heap.size < U.heap.size := Nat.lt_of_succ_lt hzU
  clear v0
  clear u0 u1 u2 u3 u4 u5 u6 u7 ug us
  go_wp2_with fail
  refine (unhide CS _ hBU).mono ?_
  rintro e w2 ⟨rfl, hG2, hC2⟩
  have HG2 := hide hG2
  have hn : ¬ L.own (w.heap.size + 1) := fun h => by have := (unhide HH).lt _ h; omega
  have k0 := (hC2.cell hzU hn).trans k0
  have k1 := (hC2.cell hzU hn).trans k1
  have k2 := (hC2.cell hzU hn).trans k2
  have kf0 := (hC2.frozen hzU hn).trans kf0
  have kf1 := (hC2.frozen hzU hn).trans kf1
  have kf2 := (hC2.frozen hzU hn).trans kf2
  clear hG2
  go_wp2
  refine bodyPost_ret (v := .agg #[.int .i64 0, .bool D, .int .i64 0]) (by simp only [results, Try.results61]; go_simp) rfl ⟨rfl, ?_, ?_⟩
  · exact (unhide HH).far3 (unhide HG2) _ _ _ (by omega)
  · exact ((Chg.of hBU).trans hC2).far3 _ _ _ (by omega)
end
end Go.Proofs.Ytbkaopeajjechaa
