/- The walks of package graph: what each kind does. -/
import Derived.Test.YtbkaopeajjechaaGrK
namespace Go.Proofs.Ytbkaopeajjechaa
set_option linter.unusedVariables false
set_option linter.unusedSimpArgs false
open Go.RowKit Go.Maps

theorem und_p : Try.prog.underlying 71 = some (.pointer 91) := by kernel_rfl
theorem inf_o : ∃ j, Try.prog.info? 91 = some j ∧ j.size ≠ 0 := by
  have hm : (Try.prog.info? 91).map (·.size) = some 3 := by kernel_rfl
  cases e : Try.prog.info? 91 with
  | none => rw [e] at hm; cases hm
  | some j => rw [e] at hm; exact ⟨j, rfl, by simp at hm; omega⟩

/-- Pointers to objects compared. -/
theorem eqlP (U : World) (a b : Option Nat) (ha : ∀ x, a = some x → IsCells U x) (hb : ∀ x, b = some x → IsCells U x) :
    (Op.equal 71 (.pointer (a.map fun x => ⟨x, 0, none⟩)) (.pointer (b.map fun x => ⟨x, 0, none⟩))).run Try.prog U = .ok (decide (a = b)) U := by
  cases a with
  | none =>
    cases b with
    | none =>
      have h : ∀ d : Nat, (Op.equalIn (d + 1) 71 (.pointer none) (.pointer none)).run Try.prog U = .ok true U := fun d => by simp [Op.equalIn, run_underlying und_p]
      simp [Op.equal, Op.maxDepth, h 9999]
    | some y =>
      have h : ∀ d : Nat, (Op.equalIn (d + 1) 71 (.pointer none) (.pointer (some ⟨y, 0, none⟩))).run Try.prog U = .ok false U := fun d => by simp [Op.equalIn, run_underlying und_p]
      simp [Op.equal, Op.maxDepth, h 9999]
  | some x =>
    cases b with
    | none =>
      have h : ∀ d : Nat, (Op.equalIn (d + 1) 71 (.pointer (some ⟨x, 0, none⟩)) (.pointer none)).run Try.prog U = .ok false U := fun d => by simp [Op.equalIn, run_underlying und_p]
      simp [Op.equal, Op.maxDepth, h 9999]
    | some y =>
      obtain ⟨j, hj, hsz⟩ := inf_o
      have := run_equal_pt (P := Try.prog) (w := U) und_p hj hsz (ha x rfl) (hb y rfl)
      simpa using this

section
variable {T : Nat} {sp : Int} {len : Nat} {S : Nat → ByteArray} {w : World} {L : Lay} {G : Gr} {md : Int}

theorem Lay.ptr_eq (L : Lay) (x : Nat) : L.ptr x = .pointer ((if x = 0 then none else some (L.adr x)).map fun x => ⟨x, 0, none⟩) := by
  unfold Lay.ptr
  by_cases h : x = 0
  · rw [if_pos h, if_pos h]; rfl
  · rw [if_neg h, if_neg h]; rfl

theorem Lay.ptr_opt (L : Lay) (x : Nat) : ∃ o, L.ptr x = .pointer o := ⟨_, L.ptr_eq x⟩

/-- Objects of one graph compared. -/
theorem IsG.eql (H : IsG T sp len S w L G md) {x y : Nat} (hx : x = 0 ∨ L.dom x) (hy : y = 0 ∨ L.dom y) :
    (Op.equal 71 (L.ptr x) (L.ptr y)).run Try.prog w = .ok (decide (x = y)) w := by
  have ho : ∀ z b, (z = 0 ∨ L.dom z) → (if z = 0 then none else some (L.adr z)) = some b → IsCells w b := fun z b hz e => by
    split at e
    · cases e
    · rename_i h
      injection e with e
      subst e
      exact (H.obj z (hz.resolve_left h)).cells
  rw [Lay.ptr_eq, Lay.ptr_eq, eqlP w _ _ (fun b e => ho x b hx e) (fun b e => ho y b hy e)]
  have : ((if x = 0 then none else some (L.adr x)) = (if y = 0 then none else some (L.adr y))) ↔ x = y := by
    constructor
    · intro e
      by_cases h1 : x = 0
      · by_cases h2 : y = 0
        · omega
        · rw [if_pos h1, if_neg h2] at e; cases e
      · by_cases h2 : y = 0
        · rw [if_neg h1, if_pos h2] at e; cases e
        · rw [if_neg h1, if_neg h2] at e
          injection e with e
          have t1 := (H.obj x (hx.resolve_left h1)).tag
          have t2 := (H.obj y (hy.resolve_left h2)).tag
          rw [e, t2] at t1
          injection t1 with t1
          exact t1.symm
    · intro e; rw [e]
  simp only [this]

theorem IsG.eqlB (H : IsG T sp len S w L G md) {x y : Nat} (hx : x = 0 ∨ L.dom x) (hy : y = 0 ∨ L.dom y) :
    (binOp .eql 71 (L.ptr x) (L.ptr y)).run Try.prog w = .ok (.bool (decide (x = y))) w := by
  have he := H.eql hx hy
  obtain ⟨px, hpx⟩ := L.ptr_opt x
  obtain ⟨py, hpy⟩ := L.ptr_opt y
  rw [hpx, hpy] at he ⊢
  simp only [binOp]
  simp [he]
theorem IsG.neqB (H : IsG T sp len S w L G md) {x y : Nat} (hx : x = 0 ∨ L.dom x) (hy : y = 0 ∨ L.dom y) :
    (binOp .neq 71 (L.ptr x) (L.ptr y)).run Try.prog w = .ok (.bool (!(decide (x = y)))) w := by
  have he := H.eql hx hy
  obtain ⟨px, hpx⟩ := L.ptr_opt x
  obtain ⟨py, hpy⟩ := L.ptr_opt y
  rw [hpx, hpy] at he ⊢
  simp only [binOp]
  simp [he]

/-- A store into new memory leaves a graph alone. -/
theorem IsG.far {G' : Gr} {md' : Int} {W : World} (H : IsG T sp len S w L G md) (hW : IsG T sp len S W L G' md') {b i : Nat} (v : Value) (hb : w.heap.size ≤ b) : IsG T sp len S (W.setCell ⟨b, i, none⟩ v) L G' md' :=
  hW.keep (Z := fun c => c = b) ((Chg.refl _ _).set1 _) (fun c hc e => by have := H.lt c hc; omega) (fun c hc e => by have := H.shlt c hc; omega)

theorem IsG.far3 {G' : Gr} {md' : Int} {W : World} (H : IsG T sp len S w L G md) (hW : IsG T sp len S W L G' md') {b : Nat} (x y v : Value) (hb : w.heap.size ≤ b) :
    IsG T sp len S (((W.setCell ⟨b, 0, none⟩ x).setCell ⟨b, 1, none⟩ y).setCell ⟨b, 2, none⟩ v) L G' md' := H.far (H.far (H.far hW _ hb) _ hb) _ hb
theorem Chg.far3 {Z : Nat → Prop} {W : World} (h : Chg Z w W) {b : Nat} (x y v : Value) (hb : w.heap.size ≤ b) : Chg Z w (((W.setCell ⟨b, 0, none⟩ x).setCell ⟨b, 1, none⟩ y).setCell ⟨b, 2, none⟩ v) :=
  ((h.set (.inl hb) _).set (.inl hb) _).set (.inl hb) _

set_option maxRecDepth 100000 in
set_option maxHeartbeats 4000000 in
theorem tMove (H : IsG T sp len S w L G md) (t a b : Nat) (z : Nat → Int) (ht : t < T) (ha : z 1 = (a : Int)) (ha6 : a < 6) (hb : z 2 = (b : Int)) (hb6 : b < 6) :
    Calls Try.prog 63 #[trV L t z] w fun e w' => e = .returned (.agg #[.int .i64 0, .bool false, .int .i64 0]) ∧ IsG T sp len S w' L (G.slot t a (G.root t b)) md ∧ Chg L.own w w' := by
  have r0 := (H.root t b ht hb6).1
  have ra := (H.root t a ht ha6).1
  have fa := (H.root t a ht ha6).2
  obtain ⟨po, hpo⟩ := L.ptr_opt (G.root t b)
  rw [hpo] at r0
  have HU := hide (fun W (hW : Below w.heap.size w W) => (H.below hW).set_root ht ha6 (H.rinn t b ht hb6))
  rw [hpo] at HU
  have lr := block_lt ra
  have ow : L.own L.rb := by unfold Lay.own; rw [H.tr]; simp
  have HH := hide H
  clear H
  have a0 : (0 : Int) ≤ (a : Int) := by omega
  have a1 : (a : Int) < 6 := by omega
  have b0 : (0 : Int) ≤ (b : Int) := by omega
  have b1 : (b : Int) < 6 := by omega
  go_enter Try.func63, Try.ntmps63
  go_wp2
  refine wp_gen ?_; intro W1 hW1; have hB1 : Below w.heap.size w W1 := (by rw [hW1]; repeat (first | exact Below.refl _ _ | assumption | refine Below.alloc ?_ (by first | (simp; done) | (simp; omega) | omega) _ | refine Below.setCell ?_ (by first | (simp; done) | (simp; omega) | omega) _ | apply Below.drew | refine Below.trans ?_ (Below.mono (by assumption) (by first | (simp; done) | (simp; omega) | omega)))); have hz1 : w.heap.size < W1.heap.size := (by rw [hW1]; simp <;> omega); have u0 : ∀ v : Later W1, v.val.cell? ⟨w.heap.size, 0 + 1, none⟩ = some (.int .i64 (z 0)) := Later.cell hz1 (by rw [hW1]; go_simp); have u1 : ∀ v : Later W1, v.val.cell? ⟨w.heap.size, 1 + 1, none⟩ = some (.int .i64 (z 1)) := Later.cell hz1 (by rw [hW1]; go_simp); have u2 : ∀ v : Later W1, v.val.cell? ⟨w.heap.size, 2 + 1, none⟩ = some (.int .i64 (z 2)) := Later.cell hz1 (by rw [hW1]; go_simp); have u3 : ∀ v : Later W1, v.val.cell? ⟨w.heap.size, 3 + 1, none⟩ = some (.int .i64 (z 3)) := Later.cell hz1 (by rw [hW1]; go_simp); have u4 : ∀ v : Later W1, v.val.cell? ⟨w.heap.size, 4 + 1, none⟩ = some (.int .i64 (z 4)) := Later.cell hz1 (by rw [hW1]; go_simp); have u5 : ∀ v : Later W1, v.val.cell? ⟨w.heap.size, 5 + 1, none⟩ = some (.int .i64 (z 5)) := Later.cell hz1 (by rw [hW1]; go_simp); have u6 : ∀ v : Later W1, v.val.cell? ⟨w.heap.size, 6 + 1, none⟩ = some (.int .i64 (z 6)) := Later.cell hz1 (by rw [hW1]; go_simp); have u7 : ∀ v : Later W1, v.val.cell? ⟨w.heap.size, 7 + 1, none⟩ = some (.int .i64 (z 7)) := Later.cell hz1 (by rw [hW1]; go_simp); have ug : ∀ v : Later W1, v.val.cell? ⟨w.heap.size, 0, none⟩ = some (.pointer (some ⟨L.g, 0, none⟩)) := Later.cell hz1 (by rw [hW1]; go_simp); have us : ∀ v : Later W1, v.val.cell? ⟨w.heap.size, 9, none⟩ = some (.pointer (some ⟨L.rb, t * 6, none⟩)) := Later.cell hz1 (by rw [hW1]; go_simp)
  have v0 := Later.cell (w := W1) (Nat.lt_trans (block_lt r0) hz1) ((hB1.cell (block_lt r0)).trans r0)
  have hz2 : w.heap.size + 1 < W1.heap.size := (by rw [hW1]; simp); have k0 : W1.cell? ⟨w.heap.size + 1, 0, none⟩ = some (.int .i64 0) := (by rw [hW1]; go_simp); have k1 : W1.cell? ⟨w.heap.size + 1, 1, none⟩ = some (.bool false) := (by rw [hW1]; go_simp); have k2 : W1.cell? ⟨w.heap.size + 1, 2, none⟩ = some (.int .i64 0) := (by rw [hW1]; go_simp); have kf0 : W1.frozen? ⟨w.heap.size + 1, 0, none⟩ = false := (by rw [hW1]; go_simp); have kf1 : W1.frozen? ⟨w.heap.size + 1, 1, none⟩ = false := (by rw [hW1]; go_simp); have kf2 : W1.frozen? ⟨w.heap.size + 1, 2, none⟩ = false := (by rw [hW1]; go_simp); clear hW1
  refine wp_region_head_later 15 W1 (by kernel_rfl) (by kernel_rfl) (by repeat (first | exact Below.refl _ _ | assumption | refine Below.alloc ?_ (by first | (simp; done) | (simp; omega) | omega) _ | refine Below.setCell ?_ (by first | (simp; done) | (simp; omega) | omega) _ | apply Below.drew | refine Below.trans ?_ (Below.mono (by assumption) (by first | (simp; done) | (simp; omega) | omega)))) ?_; simp only [List.take_succ_cons, List.take_zero]; (repeat (first | go_big_quiet_skip | (go_big_quiet_want; (first | ((fail); go_big_quiet_on; simp only [Act.put, List.setIfInBounds_toArray, List.set_cons_zero, List.set_cons_succ]) | (go_big_quiet_op; (first | go_big_quiet_on | go_big_quiet_call ((fail)))))))); refine wpQuiet_nil ?_; intro U hU; simp only [List.drop_succ_cons, List.drop_zero]
  have k0 := (hU.cell (p := ⟨w.heap.size + 1, 0, none⟩) hz2).trans k0; have k1 := (hU.cell (p := ⟨w.heap.size + 1, 1, none⟩) hz2).trans k1; have k2 := (hU.cell (p := ⟨w.heap.size + 1, 2, none⟩) hz2).trans k2; have kf0 := (hU.frozen (p := ⟨w.heap.size + 1, 0, none⟩) hz2).trans kf0; have kf1 := (hU.frozen (p := ⟨w.heap.size + 1, 1, none⟩) hz2).trans kf1; have kf2 := (hU.frozen (p := ⟨w.heap.size + 1, 2, none⟩) hz2).trans kf2; have hBU : Below w.heap.size w U := hB1.trans (hU.mono (by omega)); have hzU : w.heap.size + 1 < U.heap.size := Nat.lt_of_lt_of_le hz2 hU.size; have hzV : w.heap.size < U.heap.size := Nat.lt_of_succ_lt hzU
  have rb := (hBU.cell (block_lt ra)).trans ra
  have fb := (hBU.frozen lr).trans fa
  have hne : ¬ L.rb = w.heap.size + 1 := by omega
  clear v0
  clear u0 u1 u2 u3 u4 u5 u6 u7 ug us
  go_wp2
  refine bodyPost_ret (v := .agg #[.int .i64 0, .bool false, .int .i64 0]) (by simp only [results, Try.results63]; go_simp) rfl ⟨rfl, ?_, ?_⟩
  · exact (unhide HH).far3 (unhide HU _ hBU) _ _ _ (by omega)
  · exact ((Chg.of hBU).set (.inr ow) _).far3 _ _ _ (by omega)

set_option maxRecDepth 100000 in
set_option maxHeartbeats 4000000 in
theorem tDrop (H : IsG T sp len S w L G md) (t a : Nat) (z : Nat → Int) (ht : t < T) (ha : z 1 = (a : Int)) (ha6 : a < 6) :
    Calls Try.prog 64 #[trV L t z] w fun e w' => e = .returned (.agg #[.int .i64 0, .bool false, .int .i64 0]) ∧ IsG T sp len S w' L (G.slot t a 0) md ∧ Chg L.own w w' := by
  have ra := (H.root t a ht ha6).1
  have fa := (H.root t a ht ha6).2
  have HU := hide (fun W (hW : Below w.heap.size w W) => (H.below hW).set_root ht ha6 (.inl rfl))
  rw [show L.ptr 0 = .pointer none from rfl] at HU
  have lr := block_lt ra
  have ow : L.own L.rb := by unfold Lay.own; rw [H.tr]; simp
  have HH := hide H
  clear H
  have a0 : (0 : Int) ≤ (a : Int) := by omega
  have a1 : (a : Int) < 6 := by omega
  go_enter Try.func64, Try.ntmps64
  go_wp2
  refine wp_gen ?_; intro W1 hW1; have hB1 : Below w.heap.size w W1 := (by rw [hW1]; repeat (first | exact Below.refl _ _ | assumption | refine Below.alloc ?_ (by first | (simp; done) | (simp; omega) | omega) _ | refine Below.setCell ?_ (by first | (simp; done) | (simp; omega) | omega) _ | apply Below.drew | refine Below.trans ?_ (Below.mono (by assumption) (by first | (simp; done) | (simp; omega) | omega)))); have hz1 : w.heap.size < W1.heap.size := (by rw [hW1]; simp <;> omega); have u0 : ∀ v : Later W1, v.val.cell? ⟨w.heap.size, 0 + 1, none⟩ = some (.int .i64 (z 0)) := Later.cell hz1 (by rw [hW1]; go_simp); have u1 : ∀ v : Later W1, v.val.cell? ⟨w.heap.size, 1 + 1, none⟩ = some (.int .i64 (z 1)) := Later.cell hz1 (by rw [hW1]; go_simp); have u2 : ∀ v : Later W1, v.val.cell? ⟨w.heap.size, 2 + 1, none⟩ = some (.int .i64 (z 2)) := Later.cell hz1 (by rw [hW1]; go_simp); have u3 : ∀ v : Later W1, v.val.cell? ⟨w.heap.size, 3 + 1, none⟩ = some (.int .i64 (z 3)) := Later.cell hz1 (by rw [hW1]; go_simp); have u4 : ∀ v : Later W1, v.val.cell? ⟨w.heap.size, 4 + 1, none⟩ = some (.int .i64 (z 4)) := Later.cell hz1 (by rw [hW1]; go_simp); have u5 : ∀ v : Later W1, v.val.cell? ⟨w.heap.size, 5 + 1, none⟩ = some (.int .i64 (z 5)) := Later.cell hz1 (by rw [hW1]; go_simp); have u6 : ∀ v : Later W1, v.val.cell? ⟨w.heap.size, 6 + 1, none⟩ = some (.int .i64 (z 6)) := Later.cell hz1 (by rw [hW1]; go_simp); have u7 : ∀ v : Later W1, v.val.cell? ⟨w.heap.size, 7 + 1, none⟩ = some (.int .i64 (z 7)) := Later.cell hz1 (by rw [hW1]; go_simp); have ug : ∀ v : Later W1, v.val.cell? ⟨w.heap.size, 0, none⟩ = some (.pointer (some ⟨L.g, 0, none⟩)) := Later.cell hz1 (by rw [hW1]; go_simp); have us : ∀ v : Later W1, v.val.cell? ⟨w.heap.size, 9, none⟩ = some (.pointer (some ⟨L.rb, t * 6, none⟩)) := Later.cell hz1 (by rw [hW1]; go_simp)
  have hz2 : w.heap.size + 1 < W1.heap.size := (by rw [hW1]; simp); have k0 : W1.cell? ⟨w.heap.size + 1, 0, none⟩ = some (.int .i64 0) := (by rw [hW1]; go_simp); have k1 : W1.cell? ⟨w.heap.size + 1, 1, none⟩ = some (.bool false) := (by rw [hW1]; go_simp); have k2 : W1.cell? ⟨w.heap.size + 1, 2, none⟩ = some (.int .i64 0) := (by rw [hW1]; go_simp); have kf0 : W1.frozen? ⟨w.heap.size + 1, 0, none⟩ = false := (by rw [hW1]; go_simp); have kf1 : W1.frozen? ⟨w.heap.size + 1, 1, none⟩ = false := (by rw [hW1]; go_simp); have kf2 : W1.frozen? ⟨w.heap.size + 1, 2, none⟩ = false := (by rw [hW1]; go_simp); clear hW1
  refine wp_region_head_later 7 W1 (by kernel_rfl) (by kernel_rfl) (by repeat (first | exact Below.refl _ _ | assumption | refine Below.alloc ?_ (by first | (simp; done) | (simp; omega) | omega) _ | refine Below.setCell ?_ (by first | (simp; done) | (simp; omega) | omega) _ | apply Below.drew | refine Below.trans ?_ (Below.mono (by assumption) (by first | (simp; done) | (simp; omega) | omega)))) ?_; simp only [List.take_succ_cons, List.take_zero]; (repeat (first | go_big_quiet_skip | (go_big_quiet_want; (first | ((fail); go_big_quiet_on; simp only [Act.put, List.setIfInBounds_toArray, List.set_cons_zero, List.set_cons_succ]) | (go_big_quiet_op; (first | go_big_quiet_on | go_big_quiet_call ((fail)))))))); refine wpQuiet_nil ?_; intro U hU; simp only [List.drop_succ_cons, List.drop_zero]
  have k0 := (hU.cell (p := ⟨w.heap.size + 1, 0, none⟩) hz2).trans k0; have k1 := (hU.cell (p := ⟨w.heap.size + 1, 1, none⟩) hz2).trans k1; have k2 := (hU.cell (p := ⟨w.heap.size + 1, 2, none⟩) hz2).trans k2; have kf0 := (hU.frozen (p := ⟨w.heap.size + 1, 0, none⟩) hz2).trans kf0; have kf1 := (hU.frozen (p := ⟨w.heap.size + 1, 1, none⟩) hz2).trans kf1; have kf2 := (hU.frozen (p := ⟨w.heap.size + 1, 2, none⟩) hz2).trans kf2; have hBU : Below w.heap.size w U := hB1.trans (hU.mono (by omega)); have hzU : w.heap.size + 1 < U.heap.size := Nat.lt_of_lt_of_le hz2 hU.size; have hzV : w.heap.size < U.heap.size := Nat.lt_of_succ_lt hzU
  have rb := (hBU.cell (block_lt ra)).trans ra
  have fb := (hBU.frozen lr).trans fa
  have hne : ¬ L.rb = w.heap.size + 1 := by omega
  clear u0 u1 u2 u3 u4 u5 u6 u7 ug us
  go_wp2
  refine bodyPost_ret (v := .agg #[.int .i64 0, .bool false, .int .i64 0]) (by simp only [results, Try.results64]; go_simp) rfl ⟨rfl, ?_, ?_⟩
  · exact (unhide HH).far3 (unhide HU _ hBU) _ _ _ (by omega)
  · exact ((Chg.of hBU).set (.inr ow) _).far3 _ _ _ (by omega)

set_option maxRecDepth 100000 in
set_option maxHeartbeats 4000000 in
theorem tCollect (H : IsG T sp len S w L G md) (t : Nat) (z : Nat → Int) :
    Calls Try.prog 65 #[trV L t z] w fun e w' => e = .returned (.agg #[.int .i64 0, .bool false, .int .i64 0]) ∧ IsG T sp len S w' L G md ∧ Chg L.own w w' := by
  have HU := hide (fun W (hW : Below w.heap.size w W) => H.below hW)
  clear H
  go_enter Try.func65, Try.ntmps65
  go_wp2
  refine bodyPost_ret (v := .agg #[.int .i64 0, .bool false, .int .i64 0]) (by simp only [results, Try.results65]; go_simp) rfl ⟨rfl, ?_, ?_⟩
  · exact unhide HU _ (by repeat (first | exact Below.refl _ _ | assumption | refine Below.alloc ?_ (by first | (simp; done) | (simp; omega) | omega) _ | refine Below.setCell ?_ (by first | (simp; done) | (simp; omega) | omega) _ | apply Below.drew | refine Below.trans ?_ (Below.mono (by assumption) (by first | (simp; done) | (simp; omega) | omega))))
  · exact Chg.of (by repeat (first | exact Below.refl _ _ | assumption | refine Below.alloc ?_ (by first | (simp; done) | (simp; omega) | omega) _ | refine Below.setCell ?_ (by first | (simp; done) | (simp; omega) | omega) _ | apply Below.drew | refine Below.trans ?_ (Below.mono (by assumption) (by first | (simp; done) | (simp; omega) | omega))))

set_option maxRecDepth 100000 in
set_option maxHeartbeats 4000000 in
theorem tEq (H : IsG T sp len S w L G md) (t a b : Nat) (z : Nat → Int) (ht : t < T) (ha : z 1 = (a : Int)) (ha6 : a < 6) (hb : z 2 = (b : Int)) (hb6 : b < 6) :
    Calls Try.prog 62 #[trV L t z] w fun e w' => e = .returned (.agg #[.int .i64 0, .bool (decide (G.root t a = G.root t b)), .int .i64 0]) ∧ IsG T sp len S w' L G md ∧ Chg L.own w w' := by
  have r0 := (H.root t b ht hb6).1
  have ra := (H.root t a ht ha6).1
  have HE := hide (fun W (hW : Below w.heap.size w W) => (H.below hW).eqlB (H.rinn t a ht ha6) (H.rinn t b ht hb6))
  obtain ⟨po, hpo⟩ := L.ptr_opt (G.root t b)
  obtain ⟨pa, hpa⟩ := L.ptr_opt (G.root t a)
  rw [hpo, hpa] at HE
  rw [hpo] at r0
  rw [hpa] at ra
  have HU := hide (fun W (hW : Below w.heap.size w W) => H.below hW)
  have HH := hide H
  clear H hpo hpa
  generalize decide (G.root t a = G.root t b) = D at *
  have a0 : (0 : Int) ≤ (a : Int) := by omega
  have a1 : (a : Int) < 6 := by omega
  have b0 : (0 : Int) ≤ (b : Int) := by omega
  have b1 : (b : Int) < 6 := by omega
  go_enter Try.func62, Try.ntmps62
  go_wp2
  refine wp_gen ?_; intro W1 hW1; have hB1 : Below w.heap.size w W1 := (by rw [hW1]; repeat (first | exact Below.refl _ _ | assumption | refine Below.alloc ?_ (by first | (simp; done) | (simp; omega) | omega) _ | refine Below.setCell ?_ (by first | (simp; done) | (simp; omega) | omega) _ | apply Below.drew | refine Below.trans ?_ (Below.mono (by assumption) (by first | (simp; done) | (simp; omega) | omega)))); have hz1 : w.heap.size < W1.heap.size := (by rw [hW1]; simp <;> omega); have u0 : ∀ v : Later W1, v.val.cell? ⟨w.heap.size, 0 + 1, none⟩ = some (.int .i64 (z 0)) := Later.cell hz1 (by rw [hW1]; go_simp); have u1 : ∀ v : Later W1, v.val.cell? ⟨w.heap.size, 1 + 1, none⟩ = some (.int .i64 (z 1)) := Later.cell hz1 (by rw [hW1]; go_simp); have u2 : ∀ v : Later W1, v.val.cell? ⟨w.heap.size, 2 + 1, none⟩ = some (.int .i64 (z 2)) := Later.cell hz1 (by rw [hW1]; go_simp); have u3 : ∀ v : Later W1, v.val.cell? ⟨w.heap.size, 3 + 1, none⟩ = some (.int .i64 (z 3)) := Later.cell hz1 (by rw [hW1]; go_simp); have u4 : ∀ v : Later W1, v.val.cell? ⟨w.heap.size, 4 + 1, none⟩ = some (.int .i64 (z 4)) := Later.cell hz1 (by rw [hW1]; go_simp); have u5 : ∀ v : Later W1, v.val.cell? ⟨w.heap.size, 5 + 1, none⟩ = some (.int .i64 (z 5)) := Later.cell hz1 (by rw [hW1]; go_simp); have u6 : ∀ v : Later W1, v.val.cell? ⟨w.heap.size, 6 + 1, none⟩ = some (.int .i64 (z 6)) := Later.cell hz1 (by rw [hW1]; go_simp); have u7 : ∀ v : Later W1, v.val.cell? ⟨w.heap.size, 7 + 1, none⟩ = some (.int .i64 (z 7)) := Later.cell hz1 (by rw [hW1]; go_simp); have ug : ∀ v : Later W1, v.val.cell? ⟨w.heap.size, 0, none⟩ = some (.pointer (some ⟨L.g, 0, none⟩)) := Later.cell hz1 (by rw [hW1]; go_simp); have us : ∀ v : Later W1, v.val.cell? ⟨w.heap.size, 9, none⟩ = some (.pointer (some ⟨L.rb, t * 6, none⟩)) := Later.cell hz1 (by rw [hW1]; go_simp)
  have v0 := Later.cell (w := W1) (Nat.lt_trans (block_lt r0) hz1) ((hB1.cell (block_lt r0)).trans r0)
  have v1 := Later.cell (w := W1) (Nat.lt_trans (block_lt ra) hz1) ((hB1.cell (block_lt ra)).trans ra)
  have ve : ∀ v : Later W1, (binOp .eql 71 (.pointer pa) (.pointer po)).run Try.prog v.val = .ok (.bool D) v.val := fun v => unhide HE v.val (hB1.trans (v.ok.mono (by omega)))
  have hz2 : w.heap.size + 1 < W1.heap.size := (by rw [hW1]; simp); have k0 : W1.cell? ⟨w.heap.size + 1, 0, none⟩ = some (.int .i64 0) := (by rw [hW1]; go_simp); have k1 : W1.cell? ⟨w.heap.size + 1, 1, none⟩ = some (.bool false) := (by rw [hW1]; go_simp); have k2 : W1.cell? ⟨w.heap.size + 1, 2, none⟩ = some (.int .i64 0) := (by rw [hW1]; go_simp); have kf0 : W1.frozen? ⟨w.heap.size + 1, 0, none⟩ = false := (by rw [hW1]; go_simp); have kf1 : W1.frozen? ⟨w.heap.size + 1, 1, none⟩ = false := (by rw [hW1]; go_simp); have kf2 : W1.frozen? ⟨w.heap.size + 1, 2, none⟩ = false := (by rw [hW1]; go_simp); clear hW1
  refine wp_region_head_later 18 W1 (by kernel_rfl) (by kernel_rfl) (by repeat (first | exact Below.refl _ _ | assumption | refine Below.alloc ?_ (by first | (simp; done) | (simp; omega) | omega) _ | refine Below.setCell ?_ (by first | (simp; done) | (simp; omega) | omega) _ | apply Below.drew | refine Below.trans ?_ (Below.mono (by assumption) (by first | (simp; done) | (simp; omega) | omega)))) ?_; simp only [List.take_succ_cons, List.take_zero]; (repeat (first | go_big_quiet_skip | (go_big_quiet_want; (first | ((fail); go_big_quiet_on; simp only [Act.put, List.setIfInBounds_toArray, List.set_cons_zero, List.set_cons_succ]) | (go_big_quiet_op; (first | go_big_quiet_on | go_big_quiet_call ((fail)))))))); refine wpQuiet_nil ?_; intro U hU; simp only [List.drop_succ_cons, List.drop_zero]
  have k0 := (hU.cell (p := ⟨w.heap.size + 1, 0, none⟩) hz2).trans k0; have k1 := (hU.cell (p := ⟨w.heap.size + 1, 1, none⟩) hz2).trans k1; have k2 := (hU.cell (p := ⟨w.heap.size + 1, 2, none⟩) hz2).trans k2; have kf0 := (hU.frozen (p := ⟨w.heap.size + 1, 0, none⟩) hz2).trans kf0; have kf1 := (hU.frozen (p := ⟨w.heap.size + 1, 1, none⟩) hz2).trans kf1; have kf2 := (hU.frozen (p := ⟨w.heap.size + 1, 2, none⟩) hz2).trans kf2; have hBU : Below w.heap.size w U := hB1.trans (hU.mono (by omega)); have hzU : w.heap.size + 1 < U.heap.size := Nat.lt_of_lt_of_le hz2 hU.size; have hzV : w.heap.size < U.heap.size := Nat.lt_of_succ_lt hzU
  clear v0 v1 ve
  clear u0 u1 u2 u3 u4 u5 u6 u7 ug us
  go_wp2
  refine bodyPost_ret (v := .agg #[.int .i64 0, .bool D, .int .i64 0]) (by simp only [results, Try.results62]; go_simp) rfl ⟨rfl, ?_, ?_⟩
  · exact (unhide HH).far3 (unhide HU _ hBU) _ _ _ (by omega)
  · exact (Chg.of hBU).far3 _ _ _ (by omega)
end
end Go.Proofs.Ytbkaopeajjechaa
