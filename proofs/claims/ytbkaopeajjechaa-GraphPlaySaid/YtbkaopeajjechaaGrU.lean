/- The walks of package graph: Do, its turn. -/
import Derived.Test.YtbkaopeajjechaaGrS
import Derived.Test.YtbkaopeajjechaaRs
namespace Go.Proofs.Ytbkaopeajjechaa
set_option linter.unusedVariables false
set_option linter.unusedSimpArgs false
open Go.RowKit Go.Maps

set_option maxRecDepth 100000 in
theorem kfn_call (k : Nat) (h : 1 ≤ k ∧ k ≤ 11) (args : Array Value) (W : World) : (callFunc (kfn k) args).run Try.prog W = .ok (.enter (kfn k) args) W := by
  obtain rfl | rfl | rfl | rfl | rfl | rfl | rfl | rfl | rfl | rfl | rfl : k = 1 ∨ k = 2 ∨ k = 3 ∨ k = 4 ∨ k = 5 ∨ k = 6 ∨ k = 7 ∨ k = 8 ∨ k = 9 ∨ k = 10 ∨ k = 11 := by omega
  all_goals rfl

section
variable {T : Nat} {sp : Int} {len : Nat} {S : Nat → ByteArray} {w : World} {L : Lay} {G : Gr}

set_option maxRecDepth 100000 in
set_option maxHeartbeats 8000000 in
theorem do_no (H : IsG T sp len S w L G G.n) (hlen : len ≤ 9223372036854775807) (hS : ∀ i, i < len → (S i).size ≤ 9223372036854775807) (t : Nat) (z : Nat → Int) (ht : t < T) (h0 : opE len S z = 0) (he : G.err len S t z ≠ 0) :
    Calls Try.prog 14 #[.pointer (some ⟨L.g, 0, none⟩), .int .i64 (t : Int), opV z] w fun e w' => e = .returned (.tuple #[.agg #[.int .i64 (G.err len S t z), .bool false, .int .i64 0], .int .i64 0]) ∧ Below w.heap.size w w' := by
  obtain ⟨k, hk⟩ : ∃ k : Nat, z 0 = (k : Int) := ⟨(z 0).toNat, by have := (opE_zero h0).1; omega⟩
  have hk1 : 1 ≤ k ∧ k ≤ 11 := by have := (opE_zero h0).1; omega
  have c1 := hide (fun W (hW : Below w.heap.size w W) => none_no (H.below hW))
  have c2 := hide (fun W (hW : Below w.heap.size w W) => opChk_any L.shA len L.shcap S hlen hS z W (H.below hW).shp)
  rw [h0] at c2
  have CT1 := hide (fun W (hW : Below w.heap.size w W) => turn_no (H.below hW) hlen hS t k z ht hk h0 he)
  have CK1 := hide (fun W => kinds_any W)
  have h3 := H.c3
  have g2 := H.c2
  have lg := block_lt h3
  have HK := hide hk
  clear H hS h0 hk
  generalize G.err len S t z = E at *
  have hcf := kfn_call k hk1
  generalize hF : kfn k = F at *
  have lg0 : L.g < w.heap.size := lg
  have lg1 : L.g < w.heap.size + 1 := by omega
  have lg2 : L.g < w.heap.size + 1 + 1 := by omega
  have ht1 : (0 : Int) ≤ (t : Int) := by omega
  have ht2 : (t : Int) < (T : Int) := by omega
  have ht3 : ¬ (t : Int) < 0 := by omega
  have ht4 : ¬ (T : Int) ≤ (t : Int) := by omega
  have hmf : ∀ (fn : Fn) (first cap : Array Value) (w : World), (Instr.makeFunc fn first cap).run Try.prog w = .ok (.func fn first cap) w := fun _ _ _ _ => rfl
  go_enter_defers Try.func14, Try.ntmps14
  go_wp2_with fail
  refine (unhide c1 _ (by repeat (first | exact Below.refl _ _ | assumption | refine Below.alloc ?_ (by first | (simp; done) | (simp; omega) | omega) _ | refine Below.setCell ?_ (by first | (simp; done) | (simp; omega) | omega) _ | apply Below.drew | refine Below.trans ?_ (Below.mono (by assumption) (by first | (simp; done) | (simp; omega) | omega))))).mono ?_
  rintro e w2 ⟨rfl, rfl⟩
  go_wp2
  refine wp_gen ?_; intro W1 hW1; have hB1 : Below w.heap.size w W1 := (by rw [hW1]; repeat (first | exact Below.refl _ _ | assumption | refine Below.alloc ?_ (by first | (simp; done) | (simp; omega) | omega) _ | refine Below.setCell ?_ (by first | (simp; done) | (simp; omega) | omega) _ | apply Below.drew | refine Below.trans ?_ (Below.mono (by assumption) (by first | (simp; done) | (simp; omega) | omega)))); have hz1 : w.heap.size < W1.heap.size := (by rw [hW1]; simp <;> omega); have u0 : ∀ v : Later W1, v.val.cell? ⟨w.heap.size, 0, none⟩ = some (.int .i64 (z 0)) := Later.cell hz1 (by rw [hW1]; go_simp); have u1 : ∀ v : Later W1, v.val.cell? ⟨w.heap.size, 1, none⟩ = some (.int .i64 (z 1)) := Later.cell hz1 (by rw [hW1]; go_simp); have u2 : ∀ v : Later W1, v.val.cell? ⟨w.heap.size, 2, none⟩ = some (.int .i64 (z 2)) := Later.cell hz1 (by rw [hW1]; go_simp); have u3 : ∀ v : Later W1, v.val.cell? ⟨w.heap.size, 3, none⟩ = some (.int .i64 (z 3)) := Later.cell hz1 (by rw [hW1]; go_simp); have u4 : ∀ v : Later W1, v.val.cell? ⟨w.heap.size, 4, none⟩ = some (.int .i64 (z 4)) := Later.cell hz1 (by rw [hW1]; go_simp); have u5 : ∀ v : Later W1, v.val.cell? ⟨w.heap.size, 5, none⟩ = some (.int .i64 (z 5)) := Later.cell hz1 (by rw [hW1]; go_simp); have u6 : ∀ v : Later W1, v.val.cell? ⟨w.heap.size, 6, none⟩ = some (.int .i64 (z 6)) := Later.cell hz1 (by rw [hW1]; go_simp); have u7 : ∀ v : Later W1, v.val.cell? ⟨w.heap.size, 7, none⟩ = some (.int .i64 (z 7)) := Later.cell hz1 (by rw [hW1]; go_simp)
  have v2 := Later.cell (w := W1) (Nat.lt_trans (block_lt g2) hz1) ((hB1.cell (block_lt g2)).trans g2)
  have v3 := Later.cell (w := W1) (Nat.lt_trans (block_lt h3) hz1) ((hB1.cell (block_lt h3)).trans h3)
  have CC := hide (fun v : Later W1 => later_call (unhide c2 v.val (hB1.trans (v.ok.mono (by omega)))))
  have hz2 : w.heap.size + 1 < W1.heap.size := (by rw [hW1]; simp); have k0 : W1.cell? ⟨w.heap.size + 1, 0, none⟩ = some (.int .i64 0) := (by rw [hW1]; go_simp); have k1 : W1.cell? ⟨w.heap.size + 1, 1, none⟩ = some (.bool false) := (by rw [hW1]; go_simp); have k2 : W1.cell? ⟨w.heap.size + 1, 2, none⟩ = some (.int .i64 0) := (by rw [hW1]; go_simp); have kf0 : W1.frozen? ⟨w.heap.size + 1, 0, none⟩ = false := (by rw [hW1]; go_simp); have kf1 : W1.frozen? ⟨w.heap.size + 1, 1, none⟩ = false := (by rw [hW1]; go_simp); have kf2 : W1.frozen? ⟨w.heap.size + 1, 2, none⟩ = false := (by rw [hW1]; go_simp); clear hW1
  refine wp_region_later W1 (by kernel_rfl) (by kernel_rfl) (by repeat (first | exact Below.refl _ _ | assumption | refine Below.alloc ?_ (by first | (simp; done) | (simp; omega) | omega) _ | refine Below.setCell ?_ (by first | (simp; done) | (simp; omega) | omega) _ | apply Below.drew | refine Below.trans ?_ (Below.mono (by assumption) (by first | (simp; done) | (simp; omega) | omega)))) ?_; (repeat (first | go_big_quiet_skip | (go_big_quiet_want; (first | ((fail); go_big_quiet_on; simp only [Act.put, List.setIfInBounds_toArray, List.set_cons_zero, List.set_cons_succ]) | (go_big_quiet_op; (first | go_big_quiet_on | go_big_quiet_call (((go_at_call 33; exact unhide CC _))))))))); refine wpQuiet_nil ?_
  intro U hU
  go_wp2_with fail
  refine (must_yes 0 _).mono ?_
  rintro e w4 ⟨rfl, rfl⟩
  go_wp2
  have k0 := (hU.cell (p := ⟨w.heap.size + 1, 0, none⟩) hz2).trans k0; have k1 := (hU.cell (p := ⟨w.heap.size + 1, 1, none⟩) hz2).trans k1; have k2 := (hU.cell (p := ⟨w.heap.size + 1, 2, none⟩) hz2).trans k2; have kf0 := (hU.frozen (p := ⟨w.heap.size + 1, 0, none⟩) hz2).trans kf0; have kf1 := (hU.frozen (p := ⟨w.heap.size + 1, 1, none⟩) hz2).trans kf1; have kf2 := (hU.frozen (p := ⟨w.heap.size + 1, 2, none⟩) hz2).trans kf2; have hBU : Below w.heap.size w U := hB1.trans (hU.mono (by omega)); have hzU : w.heap.size + 1 < U.heap.size := Nat.lt_of_lt_of_le hz2 hU.size; have hzV : w.heap.size < U.heap.size := Nat.lt_of_succ_lt hzU
  have HT : Hid (∀ W, Below U.heap.size U W → Calls Try.prog F #[.agg #[.pointer (some ⟨L.g, 0, none⟩), .int .i64 (z 0), .int .i64 (z 1), .int .i64 (z 2), .int .i64 (z 3), .int .i64 (z 4), .int .i64 (z 5), .int .i64 (z 6), .int .i64 (z 7), .pointer (some ⟨L.rb, t * 6, none⟩)]] W fun e w' => e = panE E ∧ Below W.heap.size W w') := hide (fun W hW => unhide CT1 W (hBU.trans (hW.mono (by omega))))
  have HL : Hid (∀ W b, KdsV W b → (Instr.lookup 79 (.map (some b)) (.int .i64 (z 0)) false).run Try.prog W = .ok (fv F) W) := hide (fun W b hW => by
    rw [unhide HK, ← hF]
    exact hW k hk1.1 hk1.2)
  clear c1 c2 CT1 CC h3 g2
  refine wp_region_side_later [1, 0, 0, 1, 0, 0, 0, 0, 0, 0, 0, 0, 0, 2, 2, 2] 13 W1 (by kernel_rfl) (by kernel_rfl) (by repeat (first | exact Below.refl _ _ | assumption | refine Below.alloc ?_ (by first | (simp; done) | (simp; omega) | omega) _ | refine Below.setCell ?_ (by first | (simp; done) | (simp; omega) | omega) _ | apply Below.drew | refine Below.trans ?_ (Below.mono (by assumption) (by first | (simp; done) | (simp; omega) | omega)))) ?_; simp only [kblk, List.map_cons, List.map_nil, Nat.reduceBNe, diesOps_f, diesOps_t, diesOps_nil, bne_self_eq_false]; (repeat (first | go_big_quiet_skip | (go_big_quiet_want; (first | ((fail); go_big_quiet_on; simp only [Act.put, List.setIfInBounds_toArray, List.set_cons_zero, List.set_cons_succ]) | (go_big_quiet_op; (first | go_big_quiet_on | go_big_quiet_call ((fail)))))))); refine wpQuiet_nil ?_; rw [show sideIdx [1, 0, 0, 1, 0, 0, 0, 0, 0, 0, 0, 0, 0, 2, 2, 2] 13 = [0, 3] from by decide]; simp only [List.filterMap_cons, List.filterMap_nil, List.getElem?_cons_zero, List.getElem?_cons_succ]; (try simp only [applyP, List.nil_append, List.cons_append, List.foldl_cons, List.foldl_nil, Act.put, List.setIfInBounds_toArray, List.set_cons_zero, List.set_cons_succ]); unfold sideWp Oper.wpV; (try simp only [applyP, List.nil_append, List.cons_append, List.foldl_cons, List.foldl_nil, Act.put, List.setIfInBounds_toArray, List.set_cons_zero, List.set_cons_succ]); go_simp
  refine (unhide CK1 _).mono ?_
  rintro e w3 ⟨rfl, hv, hb3⟩
  have hb4 : Below U.heap.size U w3 := ((Below.refl _ U).drew).trans (hb3.mono (Nat.le_refl _))
  have hlk := unhide HL _ _ hv
  (try simp only [World.size_drew] at hlk)
  refine ⟨_, rfl, hU.trans (hb4.mono hU.size), ?_⟩
  (try simp only [applyP, List.nil_append, List.cons_append, List.foldl_cons, List.foldl_nil, Act.put, List.setIfInBounds_toArray, List.set_cons_zero, List.set_cons_succ]); unfold sideWp Oper.wpV; (try simp only [applyP, List.nil_append, List.cons_append, List.foldl_cons, List.foldl_nil, Act.put, List.setIfInBounds_toArray, List.set_cons_zero, List.set_cons_succ]); go_simp
  refine ⟨hU.trans (hb4.mono hU.size), ?_⟩
  unfold sideWp; simp only [applyP, List.nil_append, List.cons_append, List.foldl_cons, List.foldl_nil, Act.put, List.setIfInBounds_toArray, List.set_cons_zero, List.set_cons_succ, List.drop_succ_cons, List.drop_zero]
  clear hlk
  have k0 := (hb4.cell hzU).trans k0
  have k1 := (hb4.cell hzU).trans k1
  have k2 := (hb4.cell hzU).trans k2
  have kf0 := (hb4.frozen hzU).trans kf0
  have kf1 := (hb4.frozen hzU).trans kf1
  have kf2 := (hb4.frozen hzU).trans kf2
  have hBV : Below w.heap.size w w3 := hBU.trans (hb4.mono (by omega))
  have hzW : w.heap.size + 1 < w3.heap.size := Nat.lt_of_lt_of_le hzU hb4.size
  go_wp2_with fail
  refine (unhide HT _ hb4).mono ?_
  rintro e w5 ⟨rfl, hb5⟩
  have k0 := (hb5.cell hzW).trans k0
  have k1 := (hb5.cell hzW).trans k1
  have k2 := (hb5.cell hzW).trans k2
  have kf0 := (hb5.frozen hzW).trans kf0
  have kf1 := (hb5.frozen hzW).trans kf1
  have kf2 := (hb5.frozen hzW).trans kf2
  have hBX : Below w.heap.size w w5 := hBV.trans (hb5.mono (by omega))
  have hz5 := hb5.size
  have hz6 : w.heap.size < w5.heap.size := by omega
  go_wp2
  refine leaves_cons (f := 32) (args := #[.pointer (some ⟨w.heap.size + 1, 0, none⟩)]) (by simp) (by simp [go_sem]) ?_
  refine (catch_pan (w.heap.size + 1) E [] _ _ _ _ k0 k1 k2 kf0 kf1 kf2).mono ?_
  rintro e u' w'' ⟨rfl, rfl, rfl⟩
  refine ⟨.tuple #[.agg #[.int .i64 E, .bool false, .int .i64 0], .int .i64 0], ?_, rfl, ((hBX.setCell (by simp) _).setCell (by simp) _).setCell (by simp) _⟩
  simp only [results, Try.results14]
  go_simp
set_option maxRecDepth 100000 in
set_option maxHeartbeats 8000000 in
theorem do_ok (H : IsG T sp len S w L G G.n) (hlen : len ≤ 9223372036854775807) (hS : ∀ i, i < len → (S i).size ≤ 9223372036854775807) (t : Nat) (z : Nat → Int) (ht : t < T) (h0 : opE len S z = 0) (hn : G.n < 9223372036854775807) (he : G.err len S t z = 0) :
    Calls Try.prog 14 #[.pointer (some ⟨L.g, 0, none⟩), .int .i64 (t : Int), opV z] w fun e w' => e = .returned (.tuple #[G.okV t z, .int .i64 0]) ∧ (∃ L', Lay.Ext L L' w.heap.size ∧ IsG T sp len S w' L' (G.did t z) ((G.did t z).n : Nat)) ∧ Chg L.own w w' := by
  obtain ⟨k, hk⟩ : ∃ k : Nat, z 0 = (k : Int) := ⟨(z 0).toNat, by have := (opE_zero h0).1; omega⟩
  have hk1 : 1 ≤ k ∧ k ≤ 11 := by have := (opE_zero h0).1; omega
  have c1 := hide (fun W (hW : Below w.heap.size w W) => none_no (H.below hW))
  have c2 := hide (fun W (hW : Below w.heap.size w W) => opChk_any L.shA len L.shcap S hlen hS z W (H.below hW).shp)
  rw [h0] at c2
  have CT1 := hide (fun W (hW : Below w.heap.size w W) => turn_ok (H.below hW) hlen hS hn t k z ht hk h0 he)
  have CK1 := hide (fun W => kinds_any W)
  have h3 := H.c3
  have g2 := H.c2
  have lg := block_lt h3
  have HK := hide hk
  have HH := hide H
  clear H hS h0 hk
  clear he
  generalize hD : G.did t z = D at *
  obtain ⟨oi, ov, hO⟩ : ∃ (b : Bool) (v : Int), G.okV t z = .agg #[.int .i64 0, .bool b, .int .i64 v] := ⟨_, _, rfl⟩
  rw [hO] at CT1 ⊢
  have hcf := kfn_call k hk1
  generalize hF : kfn k = F at *
  have lg0 : L.g < w.heap.size := lg
  have lg1 : L.g < w.heap.size + 1 := by omega
  have lg2 : L.g < w.heap.size + 1 + 1 := by omega
  have ht1 : (0 : Int) ≤ (t : Int) := by omega
  have ht2 : (t : Int) < (T : Int) := by omega
  have ht3 : ¬ (t : Int) < 0 := by omega
  have ht4 : ¬ (T : Int) ≤ (t : Int) := by omega
  have hmf : ∀ (fn : Fn) (first cap : Array Value) (w : World), (Instr.makeFunc fn first cap).run Try.prog w = .ok (.func fn first cap) w := fun _ _ _ _ => rfl
  go_enter_defers Try.func14, Try.ntmps14
  go_wp2_with fail
  refine (unhide c1 _ (by repeat (first | exact Below.refl _ _ | assumption | refine Below.alloc ?_ (by first | (simp; done) | (simp; omega) | omega) _ | refine Below.setCell ?_ (by first | (simp; done) | (simp; omega) | omega) _ | apply Below.drew | refine Below.trans ?_ (Below.mono (by assumption) (by first | (simp; done) | (simp; omega) | omega))))).mono ?_
  rintro e w2 ⟨rfl, rfl⟩
  go_wp2
  refine wp_gen ?_; intro W1 hW1; have hB1 : Below w.heap.size w W1 := (by rw [hW1]; repeat (first | exact Below.refl _ _ | assumption | refine Below.alloc ?_ (by first | (simp; done) | (simp; omega) | omega) _ | refine Below.setCell ?_ (by first | (simp; done) | (simp; omega) | omega) _ | apply Below.drew | refine Below.trans ?_ (Below.mono (by assumption) (by first | (simp; done) | (simp; omega) | omega)))); have hz1 : w.heap.size < W1.heap.size := (by rw [hW1]; simp <;> omega); have u0 : ∀ v : Later W1, v.val.cell? ⟨w.heap.size, 0, none⟩ = some (.int .i64 (z 0)) := Later.cell hz1 (by rw [hW1]; go_simp); have u1 : ∀ v : Later W1, v.val.cell? ⟨w.heap.size, 1, none⟩ = some (.int .i64 (z 1)) := Later.cell hz1 (by rw [hW1]; go_simp); have u2 : ∀ v : Later W1, v.val.cell? ⟨w.heap.size, 2, none⟩ = some (.int .i64 (z 2)) := Later.cell hz1 (by rw [hW1]; go_simp); have u3 : ∀ v : Later W1, v.val.cell? ⟨w.heap.size, 3, none⟩ = some (.int .i64 (z 3)) := Later.cell hz1 (by rw [hW1]; go_simp); have u4 : ∀ v : Later W1, v.val.cell? ⟨w.heap.size, 4, none⟩ = some (.int .i64 (z 4)) := Later.cell hz1 (by rw [hW1]; go_simp); have u5 : ∀ v : Later W1, v.val.cell? ⟨w.heap.size, 5, none⟩ = some (.int .i64 (z 5)) := Later.cell hz1 (by rw [hW1]; go_simp); have u6 : ∀ v : Later W1, v.val.cell? ⟨w.heap.size, 6, none⟩ = some (.int .i64 (z 6)) := Later.cell hz1 (by rw [hW1]; go_simp); have u7 : ∀ v : Later W1, v.val.cell? ⟨w.heap.size, 7, none⟩ = some (.int .i64 (z 7)) := Later.cell hz1 (by rw [hW1]; go_simp)
  have v2 := Later.cell (w := W1) (Nat.lt_trans (block_lt g2) hz1) ((hB1.cell (block_lt g2)).trans g2)
  have v3 := Later.cell (w := W1) (Nat.lt_trans (block_lt h3) hz1) ((hB1.cell (block_lt h3)).trans h3)
  have CC := hide (fun v : Later W1 => later_call (unhide c2 v.val (hB1.trans (v.ok.mono (by omega)))))
  have hz2 : w.heap.size + 1 < W1.heap.size := (by rw [hW1]; simp); have k0 : W1.cell? ⟨w.heap.size + 1, 0, none⟩ = some (.int .i64 0) := (by rw [hW1]; go_simp); have k1 : W1.cell? ⟨w.heap.size + 1, 1, none⟩ = some (.bool false) := (by rw [hW1]; go_simp); have k2 : W1.cell? ⟨w.heap.size + 1, 2, none⟩ = some (.int .i64 0) := (by rw [hW1]; go_simp); have kf0 : W1.frozen? ⟨w.heap.size + 1, 0, none⟩ = false := (by rw [hW1]; go_simp); have kf1 : W1.frozen? ⟨w.heap.size + 1, 1, none⟩ = false := (by rw [hW1]; go_simp); have kf2 : W1.frozen? ⟨w.heap.size + 1, 2, none⟩ = false := (by rw [hW1]; go_simp); clear hW1
  refine wp_region_later W1 (by kernel_rfl) (by kernel_rfl) (by repeat (first | exact Below.refl _ _ | assumption | refine Below.alloc ?_ (by first | (simp; done) | (simp; omega) | omega) _ | refine Below.setCell ?_ (by first | (simp; done) | (simp; omega) | omega) _ | apply Below.drew | refine Below.trans ?_ (Below.mono (by assumption) (by first | (simp; done) | (simp; omega) | omega)))) ?_; (repeat (first | go_big_quiet_skip | (go_big_quiet_want; (first | ((fail); go_big_quiet_on; simp only [Act.put, List.setIfInBounds_toArray, List.set_cons_zero, List.set_cons_succ]) | (go_big_quiet_op; (first | go_big_quiet_on | go_big_quiet_call (((go_at_call 33; exact unhide CC _))))))))); refine wpQuiet_nil ?_
  intro U hU
  go_wp2_with fail
  refine (must_yes 0 _).mono ?_
  rintro e w4 ⟨rfl, rfl⟩
  go_wp2
  have k0 := (hU.cell (p := ⟨w.heap.size + 1, 0, none⟩) hz2).trans k0; have k1 := (hU.cell (p := ⟨w.heap.size + 1, 1, none⟩) hz2).trans k1; have k2 := (hU.cell (p := ⟨w.heap.size + 1, 2, none⟩) hz2).trans k2; have kf0 := (hU.frozen (p := ⟨w.heap.size + 1, 0, none⟩) hz2).trans kf0; have kf1 := (hU.frozen (p := ⟨w.heap.size + 1, 1, none⟩) hz2).trans kf1; have kf2 := (hU.frozen (p := ⟨w.heap.size + 1, 2, none⟩) hz2).trans kf2; have hBU : Below w.heap.size w U := hB1.trans (hU.mono (by omega)); have hzU : w.heap.size + 1 < U.heap.size := Nat.lt_of_lt_of_le hz2 hU.size; have hzV : w.heap.size < U.heap.size := Nat.lt_of_succ_lt hzU
  have HT : Hid (∀ W, Below U.heap.size U W → Calls Try.prog F #[.agg #[.pointer (some ⟨L.g, 0, none⟩), .int .i64 (z 0), .int .i64 (z 1), .int .i64 (z 2), .int .i64 (z 3), .int .i64 (z 4), .int .i64 (z 5), .int .i64 (z 6), .int .i64 (z 7), .pointer (some ⟨L.rb, t * 6, none⟩)]] W fun e w' => e = .returned (.agg #[.int .i64 0, .bool oi, .int .i64 ov]) ∧ (∃ L', Lay.Ext L L' W.heap.size ∧ IsG T sp len S w' L' D (D.n : Nat)) ∧ Chg L.own W w') := hide (fun W hW => unhide CT1 W (hBU.trans (hW.mono (by omega))))
  have HL : Hid (∀ W b, KdsV W b → (Instr.lookup 79 (.map (some b)) (.int .i64 (z 0)) false).run Try.prog W = .ok (fv F) W) := hide (fun W b hW => by
    rw [unhide HK, ← hF]
    exact hW k hk1.1 hk1.2)
  clear c1 c2 CT1 CC h3 g2
  refine wp_region_side_later [1, 0, 0, 1, 0, 0, 0, 0, 0, 0, 0, 0, 0, 2, 2, 2] 13 W1 (by kernel_rfl) (by kernel_rfl) (by repeat (first | exact Below.refl _ _ | assumption | refine Below.alloc ?_ (by first | (simp; done) | (simp; omega) | omega) _ | refine Below.setCell ?_ (by first | (simp; done) | (simp; omega) | omega) _ | apply Below.drew | refine Below.trans ?_ (Below.mono (by assumption) (by first | (simp; done) | (simp; omega) | omega)))) ?_; simp only [kblk, List.map_cons, List.map_nil, Nat.reduceBNe, diesOps_f, diesOps_t, diesOps_nil, bne_self_eq_false]; (repeat (first | go_big_quiet_skip | (go_big_quiet_want; (first | ((fail); go_big_quiet_on; simp only [Act.put, List.setIfInBounds_toArray, List.set_cons_zero, List.set_cons_succ]) | (go_big_quiet_op; (first | go_big_quiet_on | go_big_quiet_call ((fail)))))))); refine wpQuiet_nil ?_; rw [show sideIdx [1, 0, 0, 1, 0, 0, 0, 0, 0, 0, 0, 0, 0, 2, 2, 2] 13 = [0, 3] from by decide]; simp only [List.filterMap_cons, List.filterMap_nil, List.getElem?_cons_zero, List.getElem?_cons_succ]; (try simp only [applyP, List.nil_append, List.cons_append, List.foldl_cons, List.foldl_nil, Act.put, List.setIfInBounds_toArray, List.set_cons_zero, List.set_cons_succ]); unfold sideWp Oper.wpV; (try simp only [applyP, List.nil_append, List.cons_append, List.foldl_cons, List.foldl_nil, Act.put, List.setIfInBounds_toArray, List.set_cons_zero, List.set_cons_succ]); go_simp
  refine (unhide CK1 _).mono ?_
  rintro e w3 ⟨rfl, hv, hb3⟩
  have hb4 : Below U.heap.size U w3 := ((Below.refl _ U).drew).trans (hb3.mono (Nat.le_refl _))
  have hlk := unhide HL _ _ hv
  (try simp only [World.size_drew] at hlk)
  refine ⟨_, rfl, hU.trans (hb4.mono hU.size), ?_⟩
  (try simp only [applyP, List.nil_append, List.cons_append, List.foldl_cons, List.foldl_nil, Act.put, List.setIfInBounds_toArray, List.set_cons_zero, List.set_cons_succ]); unfold sideWp Oper.wpV; (try simp only [applyP, List.nil_append, List.cons_append, List.foldl_cons, List.foldl_nil, Act.put, List.setIfInBounds_toArray, List.set_cons_zero, List.set_cons_succ]); go_simp
  refine ⟨hU.trans (hb4.mono hU.size), ?_⟩
  unfold sideWp; simp only [applyP, List.nil_append, List.cons_append, List.foldl_cons, List.foldl_nil, Act.put, List.setIfInBounds_toArray, List.set_cons_zero, List.set_cons_succ, List.drop_succ_cons, List.drop_zero]
  clear hlk
  have k0 := (hb4.cell hzU).trans k0
  have k1 := (hb4.cell hzU).trans k1
  have k2 := (hb4.cell hzU).trans k2
  have kf0 := (hb4.frozen hzU).trans kf0
  have kf1 := (hb4.frozen hzU).trans kf1
  have kf2 := (hb4.frozen hzU).trans kf2
  have hBV : Below w.heap.size w w3 := hBU.trans (hb4.mono (by omega))
  have hzW : w.heap.size + 1 < w3.heap.size := Nat.lt_of_lt_of_le hzU hb4.size
  go_wp2_with fail
  refine (unhide HT _ hb4).mono ?_
  rintro e w5 ⟨rfl, ⟨L', hX, hG⟩, hC⟩
  have HG := hide hG
  have HX := hide hX
  have hno : ¬ L.own (w.heap.size + 1) := fun h => by have := (unhide HH).lt _ h; omega
  have k0 := (hC.cell hzW hno).trans k0
  have k1 := (hC.cell hzW hno).trans k1
  have k2 := (hC.cell hzW hno).trans k2
  have kf0 := (hC.frozen hzW hno).trans kf0
  have kf1 := (hC.frozen hzW hno).trans kf1
  have kf2 := (hC.frozen hzW hno).trans kf2
  have HC := hide hC
  have hz5 := hC.size
  have hz6 : w.heap.size < w5.heap.size := by omega
  clear hG hX hC
  go_wp2
  refine leaves_cons (f := 32) (args := #[.pointer (some ⟨w.heap.size + 1, 0, none⟩)]) (by simp) (by simp [go_sem]) ?_
  refine (catch_no (w.heap.size + 1) _).mono ?_
  rintro e u' w'' ⟨rfl, rfl, rfl⟩
  refine ⟨.tuple #[.agg #[.int .i64 0, .bool oi, .int .i64 ov], .int .i64 0], ?_, rfl, ⟨L', ⟨(unhide HX).g, (unhide HX).rb, (unhide HX).sh, fun b hb => ((unhide HX).own b hb).imp id (fun h => by have := hBV.size; omega), (unhide HX).sub⟩, ?_⟩, ?_⟩
  · simp only [results, Try.results14]
    go_simp
  · refine (unhide HG).offs3 _ _ _ (fun h => ?_) (fun c hc e => ?_)
    · rcases (unhide HX).own _ h with h | h
      · exact hno h
      · omega
    · rw [(unhide HX).sh.1] at hc
      have := (unhide HH).shlt c hc
      omega
  · exact ((Chg.of hBV).trans (unhide HC)).far3 _ _ _ (by omega)
end
end Go.Proofs.Ytbkaopeajjechaa
