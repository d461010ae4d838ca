/- The walk of package history: Check over calls. -/
import Derived.Test.YtahfoogcdgjimaaHsL
import Derived.Deep.RegionHeld3
import Derived.Deep.DeepCutAuto
import Derived.IntWalk
import Derived.Test.YtahfoogcdgjimaaQc
namespace Go.Proofs.Ytahfoogcdgjimaa
set_option linter.unusedVariables false
set_option linter.unusedSimpArgs false
open Go.RowKit

/-- A call as a value. -/
def cvv (c : Nat → Nat → Int) (b d : Nat → Bool) (k : Nat) : Value := .agg #[.int .i64 (c k 0), .int .i64 (c k 1), .int .i64 (c k 2), .int .i64 (c k 3), .int .i64 (c k 4), .int .i64 (c k 5), .int .i64 (c k 6), .int .i64 (c k 7), .int .i64 (c k 8), .int .i64 (c k 9), .bool (b k), .int .i64 (c k 11), .int .i64 (c k 12), .int .i64 (c k 13), .bool (d k)]

/-- The maps before round k. -/
def Maps2 (W : World) (m1 m2 : Nat) (c : Nat → Nat → Int) (b d : Nat → Bool) (k : Nat) : Prop :=
  (∃ n, n ≤ 2 * k ∧ SeenM W m1 n (fun s => (cnt c d s k : Int))) ∧ ∃ n, n ≤ k ∧ LastM W m2 n (fun t => (lastOf c t k).map (cvv c b d))

theorem Maps2.below {W U : World} {m1 m2 : Nat} {c : Nat → Nat → Int} {b d : Nat → Bool} {k : Nat} (H : Maps2 W m1 m2 c b d k) (hb : Below W.heap.size W U) : Maps2 U m1 m2 c b d k := by
  obtain ⟨⟨n, hn, h1⟩, n', hn', h2⟩ := H
  exact ⟨⟨n, hn, h1.below hb⟩, n', hn', h2.below hb⟩

/-- A box holds a call. -/
def BoxC (W : World) (B : Nat) (a : Nat → Int) (b d : Bool) : Prop :=
  W.cell? ⟨B, 0, none⟩ = some (.int .i64 (a 0)) ∧ W.cell? ⟨B, 1, none⟩ = some (.int .i64 (a 1)) ∧ W.cell? ⟨B, 2, none⟩ = some (.int .i64 (a 2)) ∧ W.cell? ⟨B, 3, none⟩ = some (.int .i64 (a 3)) ∧ W.cell? ⟨B, 4, none⟩ = some (.int .i64 (a 4)) ∧ W.cell? ⟨B, 5, none⟩ = some (.int .i64 (a 5)) ∧ W.cell? ⟨B, 6, none⟩ = some (.int .i64 (a 6)) ∧ W.cell? ⟨B, 7, none⟩ = some (.int .i64 (a 7)) ∧ W.cell? ⟨B, 8, none⟩ = some (.int .i64 (a 8)) ∧ W.cell? ⟨B, 9, none⟩ = some (.int .i64 (a 9)) ∧ W.cell? ⟨B, 10, none⟩ = some (.bool b) ∧ W.cell? ⟨B, 11, none⟩ = some (.int .i64 (a 11)) ∧ W.cell? ⟨B, 12, none⟩ = some (.int .i64 (a 12)) ∧ W.cell? ⟨B, 13, none⟩ = some (.int .i64 (a 13)) ∧ W.cell? ⟨B, 14, none⟩ = some (.bool d)

theorem BoxC.keep {W U : World} {B : Nat} {a : Nat → Int} {b d : Bool} (H : BoxC W B a b d) (hB : B < W.heap.size) (h : Below W.heap.size W U) : BoxC U B a b d := by
  have e : ∀ j, U.cell? ⟨B, j, none⟩ = W.cell? ⟨B, j, none⟩ := fun j => h.cell (p := ⟨B, j, none⟩) hB
  unfold BoxC at H ⊢
  simp only [e]
  exact H

theorem BoxC.new (w : World) (a : Nat → Int) (b d : Bool) : BoxC (w.alloc (.cells #[.int .i64 (a 0), .int .i64 (a 1), .int .i64 (a 2), .int .i64 (a 3), .int .i64 (a 4), .int .i64 (a 5), .int .i64 (a 6), .int .i64 (a 7), .int .i64 (a 8), .int .i64 (a 9), .bool b, .int .i64 (a 11), .int .i64 (a 12), .int .i64 (a 13), .bool d] 36)) w.heap.size a b d := by
  unfold BoxC
  refine ⟨?_, ?_, ?_, ?_, ?_, ?_, ?_, ?_, ?_, ?_, ?_, ?_, ?_, ?_, ?_⟩ <;> exact (World.cell?_alloc_new w _ _ _).trans rfl

/-- Is the call wrong by itself, or begun too early? -/
def tst (c : Nat → Nat → Int) (b d : Nat → Bool) (n : Int) (k : Nat) : Bool := !(oneB (c k) (b k) (d k) n) || (decide (0 < k) && decide (c k 12 ≤ c (k - 1) 12))


theorem BoxC.kept {W U : World} {B : Nat} {a : Nat → Int} {b d : Bool} {row : Option Nat} (H : BoxC W B a b d) (hB : B < W.heap.size) (h : W.grownBy U row) (hne : some B ≠ row) : BoxC U B a b d := by
  have e : ∀ j, U.cell? ⟨B, j, none⟩ = W.cell? ⟨B, j, none⟩ := fun j => h.cell_far ⟨B, j, none⟩ hB hne
  unfold BoxC at H ⊢
  simp only [e]
  exact H

/-- How many steps a call has; which. -/
def lenS (a : Nat → Int) (d : Bool) : Nat := if d = true ∧ a 13 ≠ a 12 then 2 else 1
def stN (a : Nat → Int) (m : Nat) : Int := if m = 0 then a 12 else a 13

/-- The counts behind m steps of call k. -/
def cntM (c : Nat → Nat → Int) (d : Nat → Bool) (k m : Nat) (s : Int) : Nat := cnt c d s k + (if 0 < m ∧ c k 12 = s then 1 else 0) + (if 1 < m ∧ c k 13 = s then 1 else 0)

theorem cnt_le (c : Nat → Nat → Int) (d : Nat → Bool) (s : Int) : ∀ k, cnt c d s k ≤ 2 * k
  | 0 => Nat.le_refl _
  | k + 1 => by
    have := cnt_le c d s k
    rw [cnt]
    split <;> split <;> omega

theorem lenS_2 {a : Nat → Int} {d : Bool} {m : Nat} (h : m < lenS a d) (h1 : m ≠ 0) : m = 1 ∧ d = true ∧ a 13 ≠ a 12 := by
  unfold lenS at h
  split at h
  · rename_i hh; exact ⟨by omega, hh⟩
  · omega

theorem cntM_at {c : Nat → Nat → Int} {d : Nat → Bool} {k m : Nat} (h : m < lenS (c k) (d k)) : cntM c d k m (stN (c k) m) = cnt c d (stN (c k) m) k := by
  unfold cntM stN
  by_cases h0 : m = 0
  · subst h0; simp
  · obtain ⟨rfl, _, h2⟩ := lenS_2 h h0
    simp; omega

theorem cntM_step {c : Nat → Nat → Int} {d : Nat → Bool} {k m q : Nat} (h : m < lenS (c k) (d k)) (hq : cnt c d (stN (c k) m) k = q) :
    (fun x => if x = stN (c k) m then ((q : Int) + 1) else (cntM c d k m x : Int)) = fun x => (cntM c d k (m + 1) x : Int) := by
  funext x
  by_cases h0 : m = 0
  · subst h0
    have e0 : stN (c k) 0 = c k 12 := rfl
    rw [e0] at hq ⊢
    by_cases e : x = c k 12
    · subst e; rw [if_pos rfl]; simp [cntM]; omega
    · rw [if_neg e]; simp [cntM, show ¬ c k 12 = x from fun hh => e hh.symm]
  · obtain ⟨rfl, _, h2⟩ := lenS_2 h h0
    have e0 : stN (c k) 1 = c k 13 := rfl
    rw [e0] at hq ⊢
    by_cases e : x = c k 13
    · subst e; rw [if_pos rfl]; simp [cntM, show ¬ c k 12 = c k 13 from fun hh => h2 hh.symm]; omega
    · rw [if_neg e]; simp [cntM, show ¬ c k 13 = x from fun hh => e hh.symm]

theorem cntM_end (c : Nat → Nat → Int) (d : Nat → Bool) (k : Nat) (s : Int) : cntM c d k (lenS (c k) (d k)) s = cnt c d s (k + 1) := by
  rw [cnt, cntM, lenS]
  by_cases h : d k = true ∧ c k 13 ≠ c k 12
  · rw [if_pos h]; simp [h.1, h.2]
  · rw [if_neg h]
    rw [if_neg (show ¬ (1 < 1 ∧ c k 13 = s) from fun hh => by omega), if_neg (show ¬ (d k = true ∧ c k 13 ≠ c k 12 ∧ c k 13 = s) from fun hh => h ⟨hh.1, hh.2.1⟩)]
    simp

theorem last_end {c : Nat → Nat → Int} {b d : Nat → Bool} {k : Nat} : (fun x => if x = c k 0 then some (cvv c b d k) else (lastOf c x k).map (cvv c b d)) = fun t => (lastOf c t (k + 1)).map (cvv c b d) := by
  funext x
  rw [lastOf]
  by_cases e : x = c k 0
  · rw [if_pos e, if_pos e.symm]; rfl
  · rw [if_neg e, if_neg (fun hh => e hh.symm)]

theorem good_not {c : Nat → Nat → Int} {b d : Nat → Bool} {n : Int} {k m : Nat} (h : m < lenS (c k) (d k)) (hq : cnt c d (stN (c k) m) k ≠ 0) : ¬ Good c b d n k := fun g => by
  by_cases h0 : m = 0
  · subst h0; exact hq g.2.2.2.1
  · obtain ⟨rfl, h1, h2⟩ := lenS_2 h h0
    exact hq (g.2.2.2.2 h1 h2)

/-- Is the last call of its thread not ahead of it? -/
def lstB (c : Nat → Nat → Int) (d : Nat → Bool) (k : Nat) : Bool := match lastOf c (c k 0) k with | some j => !(ahdB (c j) (d j) (c k)) | none => false

theorem tst_bad {c : Nat → Nat → Int} {b d : Nat → Bool} {n : Int} {k : Nat} (h : tst c b d n k = true) : ¬ Good c b d n k := fun g => by
  unfold tst at h
  rw [g.1] at h
  by_cases h0 : 0 < k
  · have := g.2.1 h0
    simp [h0] at h
    omega
  · simp [h0] at h

theorem tst_ok {c : Nat → Nat → Int} {b d : Nat → Bool} {n : Int} {k : Nat} (h : tst c b d n k = false) : oneB (c k) (b k) (d k) n = true ∧ (0 < k → c (k - 1) 12 < c k 12) := by
  unfold tst at h
  simp only [Bool.or_eq_false_iff, Bool.not_eq_false', Bool.and_eq_false_iff, decide_eq_false_iff_not] at h
  exact ⟨h.1, fun h0 => by rcases h.2 with h2 | h2 <;> omega⟩

theorem lst_bad {c : Nat → Nat → Int} {b d : Nat → Bool} {n : Int} {k : Nat} (h : lstB c d k = true) : ¬ Good c b d n k := fun g => by
  unfold lstB at h
  cases e : lastOf c (c k 0) k with
  | none => rw [e] at h; cases h
  | some j =>
    rw [e] at h
    have := g.2.2.1 j e
    simp only [this] at h
    cases h

theorem lst_ok {c : Nat → Nat → Int} {d : Nat → Bool} {k : Nat} (h : lstB c d k = false) (j : Nat) (e : lastOf c (c k 0) k = some j) : ahdB (c j) (d j) (c k) = true := by
  unfold lstB at h
  rw [e] at h
  simpa using h

theorem good_end {c : Nat → Nat → Int} {b d : Nat → Bool} {n : Int} {k : Nat} (h1 : tst c b d n k = false) (h2 : lstB c d k = false) (h3 : ∀ j, j < lenS (c k) (d k) → cnt c d (stN (c k) j) k = 0) : Good c b d n k := by
  refine ⟨(tst_ok h1).1, (tst_ok h1).2, lst_ok h2, h3 0 (by unfold lenS; split <;> omega), fun hd hne => h3 1 (by unfold lenS; rw [if_pos ⟨hd, hne⟩]; omega)⟩

theorem not_hist {c : Nat → Nat → Int} {b d : Nat → Bool} {n : Int} {k len : Nat} (h : HistTo c b d n k) (hk : k < len) (g : ¬ Good c b d n k) : ¬ HistTo c b d n len := fun hh =>
  g ((hist_good h).1 (fun i hi => hh i (by omega)))


noncomputable def reg10 : Code := (Try.f9.body.bind (findReg 10)).getD .skip

set_option maxRecDepth 100000 in
set_option maxHeartbeats 2000000 in
theorem reg10_a (c : Nat → Nat → Int) (b d : Nat → Bool) (n : Int) (k len cap g o Bx : Nat) (Q : Exit → Act → World → Prop) (u2 u3 u4 u5 u6 u9 u10 u11 u12 u13 u14 u15 u16 u17 u18 u19 u20 u21 u22 u23 u24 u25 u26 u27 u28 u29 u30 u31 u32 u33 u34 u35 u36 u37 u38 u39 u40 u41 u42 u43 u44 u45 u46 u47 u48 u49 u50 u51 u52 u53 u54 u55 u56 u57 u58 u59 u60 u61 u62 u63 u64 u65 u66 u67 u68 u69 u70 u71 u72 u73 u74 u75 u76 u77 u78 u79 u80 u81 u82 u83 u84 u85 u86 u87 u88 : Value) (W1 : World)
    (HBX : Hid (BoxC W1 Bx (c k) (b k) (d k))) (hBx : Bx < W1.heap.size) (hgx : g < W1.heap.size) (b5 : (k : Int) < (len : Int)) (hl : len ≤ 400) (e1 : oneB (c k) (b k) (d k) n = false)
    (hQ : ∀ (v33 v34 v35 v36 v37 v38 v39 v40 v41 v42 v43 v44 v45 v46 v47 v48 v49 v50 v51 : Value) (wx : World), Below W1.heap.size W1 wx → Q .normal ⟨#[.slice (some ⟨g, o, none⟩) len cap, .int .i64 n, u2, u3, u4, u5, u6, .int .i64 k, .pointer (some ⟨Bx, 0, none⟩), u9, u10, u11, u12, u13, u14, u15, u16, u17, u18, u19, u20, u21, u22, u23, u24, u25, u26, u27, u28, u29, u30, u31, u32, v33, v34, v35, v36, v37, v38, v39, v40, v41, v42, v43, v44, v45, v46, v47, v48, v49, v50, v51, .bool true, u53, u54, u55, u56, u57, u58, u59, u60, u61, u62, u63, u64, u65, u66, u67, u68, u69, u70, u71, u72, u73, u74, u75, u76, u77, u78, u79, u80, u81, u82, u83, u84, u85, u86, u87, u88], []⟩ wx) :
    Code.wp Try.prog reg10 Q ⟨#[.slice (some ⟨g, o, none⟩) len cap, .int .i64 n, u2, u3, u4, u5, u6, .int .i64 k, .pointer (some ⟨Bx, 0, none⟩), u9, u10, u11, u12, u13, u14, u15, u16, u17, u18, u19, u20, u21, u22, u23, u24, u25, u26, u27, u28, u29, u30, u31, u32, u33, u34, u35, u36, u37, u38, u39, u40, u41, u42, u43, u44, u45, u46, u47, u48, u49, u50, u51, u52, u53, u54, u55, u56, u57, u58, u59, u60, u61, u62, u63, u64, u65, u66, u67, u68, u69, u70, u71, u72, u73, u74, u75, u76, u77, u78, u79, u80, u81, u82, u83, u84, u85, u86, u87, u88], []⟩ W1 := by
  have HQ := hide hQ
  clear hQ
  conv => arg 2; whnf
  conv => zeta
  have b4 : (0 : Int) ≤ (k : Int) := by omega
  have hC1 := fun W => right_any (c k) (b k) (d k) n W
  rw [e1] at hC1
  clear e1
  refine wp_region_class (fun U => Below W1.heap.size W1 U) (by kernel_rfl) (by kernel_rfl) (by repeat (first | exact Below.refl _ _ | assumption | refine Below.alloc ?_ (by first | (simp; done) | (simp; omega) | omega) _ | refine Below.setCell ?_ (by first | (simp; done) | (simp; omega) | omega) _ | apply Below.drew | refine Below.trans ?_ (Below.mono (by assumption) (by first | (simp; done) | (simp; omega) | omega)))) ?_; repeat (first | go_big_quiet_skip | (go_big_quiet_want; (first | (go_big_quiet_op; go_big_quiet_on) | (refine quiet_op ?_; apply Exists.intro; refine ⟨fun U hU => ?_, ?_⟩; (focus ((obtain ⟨y0, y1, y2, y3, y4, y5, y6, y7, y8, y9, y10, y11, y12, y13, y14⟩ := (unhide HBX).keep hBx hU; go_simp; (first | done | with_reducible rfl | (go_at_call 25; exact class_call hU (hC1 _)))))); go_big_quiet_on; (try simp only [Act.put, List.setIfInBounds_toArray, List.set_cons_zero, List.set_cons_succ])))))
  refine wpQuiet_nil ?_
  intro w2 hw2
  exact unhide HQ _ _ _ _ _ _ _ _ _ _ _ _ _ _ _ _ _ _ _ w2 hw2

set_option maxRecDepth 100000 in
set_option maxHeartbeats 2000000 in
theorem reg10_b (c : Nat → Nat → Int) (b d : Nat → Bool) (n : Int) (k len cap g o Bx : Nat) (Q : Exit → Act → World → Prop) (u2 u3 u4 u5 u6 u9 u10 u11 u12 u13 u14 u15 u16 u17 u18 u19 u20 u21 u22 u23 u24 u25 u26 u27 u28 u29 u30 u31 u32 u33 u34 u35 u36 u37 u38 u39 u40 u41 u42 u43 u44 u45 u46 u47 u48 u49 u50 u51 u52 u53 u54 u55 u56 u57 u58 u59 u60 u61 u62 u63 u64 u65 u66 u67 u68 u69 u70 u71 u72 u73 u74 u75 u76 u77 u78 u79 u80 u81 u82 u83 u84 u85 u86 u87 u88 : Value) (W1 : World)
    (HBX : Hid (BoxC W1 Bx (c k) (b k) (d k))) (hBx : Bx < W1.heap.size) (hgx : g < W1.heap.size) (b5 : (k : Int) < (len : Int)) (hl : len ≤ 400) (e1 : oneB (c k) (b k) (d k) n = true) (hk1 : ¬ (0 : Int) < (k : Int)) (hk1n : ¬ 0 < k)
    (hQ : ∀ (v33 v34 v35 v36 v37 v38 v39 v40 v41 v42 v43 v44 v45 v46 v47 v48 v49 v50 v51 : Value) (wx : World), Below W1.heap.size W1 wx → Q .normal ⟨#[.slice (some ⟨g, o, none⟩) len cap, .int .i64 n, u2, u3, u4, u5, u6, .int .i64 k, .pointer (some ⟨Bx, 0, none⟩), u9, u10, u11, u12, u13, u14, u15, u16, u17, u18, u19, u20, u21, u22, u23, u24, u25, u26, u27, u28, u29, u30, u31, u32, v33, v34, v35, v36, v37, v38, v39, v40, v41, v42, v43, v44, v45, v46, v47, v48, v49, v50, v51, .bool false, u53, u54, u55, u56, u57, u58, u59, u60, u61, u62, u63, u64, u65, u66, u67, u68, u69, u70, u71, u72, u73, u74, u75, u76, u77, u78, u79, u80, u81, u82, u83, u84, u85, u86, u87, u88], []⟩ wx) :
    Code.wp Try.prog reg10 Q ⟨#[.slice (some ⟨g, o, none⟩) len cap, .int .i64 n, u2, u3, u4, u5, u6, .int .i64 k, .pointer (some ⟨Bx, 0, none⟩), u9, u10, u11, u12, u13, u14, u15, u16, u17, u18, u19, u20, u21, u22, u23, u24, u25, u26, u27, u28, u29, u30, u31, u32, u33, u34, u35, u36, u37, u38, u39, u40, u41, u42, u43, u44, u45, u46, u47, u48, u49, u50, u51, u52, u53, u54, u55, u56, u57, u58, u59, u60, u61, u62, u63, u64, u65, u66, u67, u68, u69, u70, u71, u72, u73, u74, u75, u76, u77, u78, u79, u80, u81, u82, u83, u84, u85, u86, u87, u88], []⟩ W1 := by
  have HQ := hide hQ
  clear hQ
  conv => arg 2; whnf
  conv => zeta
  have b4 : (0 : Int) ≤ (k : Int) := by omega
  have hC1 := fun W => right_any (c k) (b k) (d k) n W
  rw [e1] at hC1
  clear e1
  refine wp_region_class (fun U => Below W1.heap.size W1 U) (by kernel_rfl) (by kernel_rfl) (by repeat (first | exact Below.refl _ _ | assumption | refine Below.alloc ?_ (by first | (simp; done) | (simp; omega) | omega) _ | refine Below.setCell ?_ (by first | (simp; done) | (simp; omega) | omega) _ | apply Below.drew | refine Below.trans ?_ (Below.mono (by assumption) (by first | (simp; done) | (simp; omega) | omega)))) ?_; repeat (first | go_big_quiet_skip | (go_big_quiet_want; (first | (go_big_quiet_op; go_big_quiet_on) | (refine quiet_op ?_; apply Exists.intro; refine ⟨fun U hU => ?_, ?_⟩; (focus ((obtain ⟨y0, y1, y2, y3, y4, y5, y6, y7, y8, y9, y10, y11, y12, y13, y14⟩ := (unhide HBX).keep hBx hU; go_simp; (first | done | with_reducible rfl | (go_at_call 25; exact class_call hU (hC1 _)))))); go_big_quiet_on; (try simp only [Act.put, List.setIfInBounds_toArray, List.set_cons_zero, List.set_cons_succ])))))
  refine wpQuiet_nil ?_
  intro w2 hw2
  exact unhide HQ _ _ _ _ _ _ _ _ _ _ _ _ _ _ _ _ _ _ _ w2 hw2

set_option maxRecDepth 100000 in
set_option maxHeartbeats 2000000 in
theorem reg10_c (c : Nat → Nat → Int) (b d : Nat → Bool) (n : Int) (k len cap g o Bx : Nat) (Q : Exit → Act → World → Prop) (u2 u3 u4 u5 u6 u9 u10 u11 u12 u13 u14 u15 u16 u17 u18 u19 u20 u21 u22 u23 u24 u25 u26 u27 u28 u29 u30 u31 u32 u33 u34 u35 u36 u37 u38 u39 u40 u41 u42 u43 u44 u45 u46 u47 u48 u49 u50 u51 u52 u53 u54 u55 u56 u57 u58 u59 u60 u61 u62 u63 u64 u65 u66 u67 u68 u69 u70 u71 u72 u73 u74 u75 u76 u77 u78 u79 u80 u81 u82 u83 u84 u85 u86 u87 u88 : Value) (W1 : World)
    (HBX : Hid (BoxC W1 Bx (c k) (b k) (d k))) (hBx : Bx < W1.heap.size) (hgx : g < W1.heap.size) (b5 : (k : Int) < (len : Int)) (hl : len ≤ 400) (e1 : oneB (c k) (b k) (d k) n = true) (hk1 : (0 : Int) < (k : Int)) (hk1n : 0 < k) (xp : W1.cell? ⟨g, o + (k - 1) * 15 + 12, none⟩ = some (.int .i64 (c (k - 1) 12)))
    (hQ : ∀ (v33 v34 v35 v36 v37 v38 v39 v40 v41 v42 v43 v44 v45 v46 v47 v48 v49 v50 v51 : Value) (wx : World), Below W1.heap.size W1 wx → Q .normal ⟨#[.slice (some ⟨g, o, none⟩) len cap, .int .i64 n, u2, u3, u4, u5, u6, .int .i64 k, .pointer (some ⟨Bx, 0, none⟩), u9, u10, u11, u12, u13, u14, u15, u16, u17, u18, u19, u20, u21, u22, u23, u24, u25, u26, u27, u28, u29, u30, u31, u32, v33, v34, v35, v36, v37, v38, v39, v40, v41, v42, v43, v44, v45, v46, v47, v48, v49, v50, v51, .bool (decide (c k 12 ≤ c (k - 1) 12)), u53, u54, u55, u56, u57, u58, u59, u60, u61, u62, u63, u64, u65, u66, u67, u68, u69, u70, u71, u72, u73, u74, u75, u76, u77, u78, u79, u80, u81, u82, u83, u84, u85, u86, u87, u88], []⟩ wx) :
    Code.wp Try.prog reg10 Q ⟨#[.slice (some ⟨g, o, none⟩) len cap, .int .i64 n, u2, u3, u4, u5, u6, .int .i64 k, .pointer (some ⟨Bx, 0, none⟩), u9, u10, u11, u12, u13, u14, u15, u16, u17, u18, u19, u20, u21, u22, u23, u24, u25, u26, u27, u28, u29, u30, u31, u32, u33, u34, u35, u36, u37, u38, u39, u40, u41, u42, u43, u44, u45, u46, u47, u48, u49, u50, u51, u52, u53, u54, u55, u56, u57, u58, u59, u60, u61, u62, u63, u64, u65, u66, u67, u68, u69, u70, u71, u72, u73, u74, u75, u76, u77, u78, u79, u80, u81, u82, u83, u84, u85, u86, u87, u88], []⟩ W1 := by
  have HQ := hide hQ
  clear hQ
  conv => arg 2; whnf
  conv => zeta
  have b4 : (0 : Int) ≤ (k : Int) := by omega
  have hC1 := fun W => right_any (c k) (b k) (d k) n W
  rw [e1] at hC1
  clear e1
  have hk2 : 1 ≤ k := by omega
  have hk2z : (1 : Int) ≤ (k : Int) := by omega
  have hk3 : (0 : Int) ≤ (k : Int) - 1 := by omega
  have hk4 : (k : Int) - 1 < (len : Int) := by omega
  have hk5 : ((k : Int) - 1).toNat = k - 1 := by omega
  have hk6 : IntKind.i64.wrap ((k : Int) - 1) = (k : Int) - 1 := IntWalk.i64_in _ (by omega)
  refine wp_region_class (fun U => Below W1.heap.size W1 U) (by kernel_rfl) (by kernel_rfl) (by repeat (first | exact Below.refl _ _ | assumption | refine Below.alloc ?_ (by first | (simp; done) | (simp; omega) | omega) _ | refine Below.setCell ?_ (by first | (simp; done) | (simp; omega) | omega) _ | apply Below.drew | refine Below.trans ?_ (Below.mono (by assumption) (by first | (simp; done) | (simp; omega) | omega)))) ?_; repeat (first | go_big_quiet_skip | (go_big_quiet_want; (first | (go_big_quiet_op; go_big_quiet_on) | (refine quiet_op ?_; apply Exists.intro; refine ⟨fun U hU => ?_, ?_⟩; (focus ((have hcp := (hU.cell (p := ⟨g, o + (k - 1) * 15 + 12, none⟩) hgx).trans xp; obtain ⟨y0, y1, y2, y3, y4, y5, y6, y7, y8, y9, y10, y11, y12, y13, y14⟩ := (unhide HBX).keep hBx hU; go_simp; (first | done | with_reducible rfl | (go_at_call 25; exact class_call hU (hC1 _)))))); go_big_quiet_on; (try simp only [Act.put, List.setIfInBounds_toArray, List.set_cons_zero, List.set_cons_succ])))))
  refine wpQuiet_nil ?_
  intro w2 hw2
  exact unhide HQ _ _ _ _ _ _ _ _ _ _ _ _ _ _ _ _ _ _ _ w2 hw2

set_option maxHeartbeats 4000000 in
theorem chk10_ok (A : Option Addr) (len cap : Nat) (c : Nat → Nat → Int) (b d : Nat → Bool) (n : Int) (h1 : 1 ≤ n) (h2 : n ≤ 8) (h : len ≤ 400) (w : World) (H : CallOk w A len c b d)
    (HW : ∀ k j, k < len → j = 0 ∨ j = 12 ∨ j = 13 → (Lit.int .i64 (c k j)).wf = true) :
    Calls Try.prog 9 #[.slice A len cap, .int .i64 n] w fun e w' => e = .returned (.int .i64 (chkI c b d n len)) ∧ Below w.heap.size w w' := by
  have hr0 : Hid (HistTo c b d n len → chkI c b d n len = 0) := hide (fun hh => by unfold chkI; rw [if_neg (by omega), if_neg (by omega), if_pos hh])
  have hr1 : Hid (¬ HistTo c b d n len → chkI c b d n len = 200) := hide (fun hh => by unfold chkI; rw [if_neg (by omega), if_neg (by omega), if_neg hh])
  generalize chkI c b d n len = R at *
  have HH := hide (fun W (hW : Below w.heap.size w W) => H.keep hW)
  have C1 := hide (fun i W => right_any (c i) (b i) (d i) n W)
  have C2 := hide (fun i j W => ahead_any (c i) (b i) (d i) (c j) (b j) (d j) W)
  have HWF := hide HW
  clear H HW
  have b1 : ¬ n < 1 := by omega
  have b2 : ¬ 8 < n := by omega
  have b3 : ¬ (400 : Int) < (len : Int) := by omega
  have hmm := @run_makeMap Try.prog
  go_enter Try.func9, Try.ntmps9
  go_wp2
  refine wp_scope_fwd 0 rfl ?_
  go_wp2
  have HM0 : Hid (Maps2 ((w.alloc (.map #[] 0)).alloc (.map #[] 0)) w.heap.size (w.heap.size + 1) c b d 0) := hide ⟨⟨0, Nat.le_refl _, ((SeenM.made w).below (U := (w.alloc (.map #[] 0)).alloc (.map #[] 0)) (by repeat (first | exact Below.refl _ _ | assumption | refine Below.alloc ?_ (by first | (simp; done) | (simp; omega) | omega) _ | refine Below.setCell ?_ (by first | (simp; done) | (simp; omega) | omega) _ | apply Below.drew | refine Below.trans ?_ (Below.mono (by assumption) (by first | (simp; done) | (simp; omega) | omega)))))⟩, 0, Nat.le_refl _, by
    have q := LastM.made (w.alloc (.map #[] 0))
    rw [World.size_alloc] at q
    exact q⟩
  go_loopw [28] (fun i wr => ∃ k : Nat, k ≤ len ∧ i = .int .i64 k ∧ Hid (HistTo c b d n k) ∧ Hid (Maps2 wr w.heap.size (w.heap.size + 1) c b d k) ∧ Below w.heap.size w wr ∧ w.heap.size + 2 ≤ wr.heap.size) (fun i _ => len - (intOf i).toNat)
  case atStart => exact ⟨0, Nat.zero_le _, rfl, hide (fun i hi => by omega), HM0, by repeat (first | exact Below.refl _ _ | assumption | refine Below.alloc ?_ (by first | (simp; done) | (simp; omega) | omega) _ | refine Below.setCell ?_ (by first | (simp; done) | (simp; omega) | omega) _ | apply Below.drew | refine Below.trans ?_ (Below.mono (by assumption) (by first | (simp; done) | (simp; omega) | omega))), by simp⟩
  case round =>
    clear HM0
    obtain ⟨k, hk, rfl, HT, HM, hB, hsz⟩ := hrel
    by_cases hlt : k < len
    · obtain ⟨g, o, rfl, hg, hc⟩ := unhide HH _ hB (by omega)
      have HC := hide hc
      obtain ⟨c0, c1, c2, c3, c4, c5, c6, c7, c8, c9, c10, c11, c12, c13, c14⟩ := hc k hlt
      have b4 : (0 : Int) ≤ (k : Int) := by omega
      have b5 : (k : Int) < (len : Int) := by omega
      clear hc
      go_upto_region 10 with fail
      go_cut [52] (fun s wx => s = .bool (tst c b d n k) ∧ (Below wr.heap.size wr wx ∧ wr.heap.size < wx.heap.size ∧ Hid (BoxC wx wr.heap.size (c k) (b k) (d k))))
      case first =>
        obtain ⟨W1, hW1⟩ : ∃ W1, W1 = wr.alloc (.cells #[.int .i64 (c k 0), .int .i64 (c k 1), .int .i64 (c k 2), .int .i64 (c k 3), .int .i64 (c k 4), .int .i64 (c k 5), .int .i64 (c k 6), .int .i64 (c k 7), .int .i64 (c k 8), .int .i64 (c k 9), .bool (b k), .int .i64 (c k 11), .int .i64 (c k 12), .int .i64 (c k 13), .bool (d k)] 36) := ⟨_, rfl⟩
        have hB1 : Below wr.heap.size wr W1 := by rw [hW1]; repeat (first | exact Below.refl _ _ | assumption | refine Below.alloc ?_ (by first | (simp; done) | (simp; omega) | omega) _ | refine Below.setCell ?_ (by first | (simp; done) | (simp; omega) | omega) _ | apply Below.drew | refine Below.trans ?_ (Below.mono (by assumption) (by first | (simp; done) | (simp; omega) | omega)))
        have hs1 : W1.heap.size = wr.heap.size + 1 := by rw [hW1]; simp
        have hbx : BoxC W1 wr.heap.size (c k) (b k) (d k) := by rw [hW1]; exact BoxC.new _ _ _ _
        have HBX := hide hbx
        obtain ⟨x0, x1, x2, x3, x4, x5, x6, x7, x8, x9, x10, x11, x12, x13, x14⟩ := hbx
        have xp : W1.cell? ⟨g, o + (k - 1) * 15 + 12, none⟩ = some (.int .i64 (c (k - 1) 12)) := (hB1.cell (p := ⟨g, o + (k - 1) * 15 + 12, none⟩) hg).trans (unhide HC (k - 1) (by omega)).2.2.2.2.2.2.2.2.2.2.2.2.1
        have hBx : wr.heap.size < W1.heap.size := by omega
        have hgx : g < W1.heap.size := by omega
        have hC1 := unhide C1 k
        rw [← hW1]
        clear hr0 hr1 hmm C2 HWF HH hW1 c0 c1 c2 c3 c4 c5 c6 c7 c8 c9 c10 c11 c12 c13 c14 x0 x1 x2 x3 x4 x5 x6 x7 x8 x9 x10 x11 x12 x13 x14 hC1
        have hs2 : wr.heap.size + 1 ≤ W1.heap.size := by omega
        clear hs1
        cases e1 : oneB (c k) (b k) (d k) n with
        | false =>
          have ht : Hid (tst c b d n k = true) := hide (by unfold tst; rw [e1]; rfl)
          refine reg10_a c b d n k len cap g o wr.heap.size _ _ _ _ _ _ _ _ _ _ _ _ _ _ _ _ _ _ _ _ _ _ _ _ _ _ _ _ _ _ _ _ _ _ _ _ _ _ _ _ _ _ _ _ _ _ _ _ _ _ _ _ _ _ _ _ _ _ _ _ _ _ _ _ _ _ _ _ _ _ _ _ _ _ _ _ _ _ _ _ _ _ _ _ _ _ W1 HBX hBx hgx b5 h e1 ?_
          clear e1
          intro v33 v34 v35 v36 v37 v38 v39 v40 v41 v42 v43 v44 v45 v46 v47 v48 v49 v50 v51 w2 hw2
          have hz2 := hw2.size
          go_wp2_with fail
          go_meet
          exact ⟨by rw [unhide ht], by repeat (first | exact Below.refl _ _ | assumption | refine Below.alloc ?_ (by first | (simp; done) | (simp; omega) | omega) _ | refine Below.setCell ?_ (by first | (simp; done) | (simp; omega) | omega) _ | apply Below.drew | refine Below.trans ?_ (Below.mono (by assumption) (by first | (simp; done) | (simp; omega) | omega))), by omega, hide ((unhide HBX).keep hBx hw2)⟩
        | true =>
          by_cases hk0 : k = 0
          · have ht : Hid (tst c b d n k = false) := hide (by unfold tst; rw [e1, hk0]; rfl)
            refine reg10_b c b d n k len cap g o wr.heap.size _ _ _ _ _ _ _ _ _ _ _ _ _ _ _ _ _ _ _ _ _ _ _ _ _ _ _ _ _ _ _ _ _ _ _ _ _ _ _ _ _ _ _ _ _ _ _ _ _ _ _ _ _ _ _ _ _ _ _ _ _ _ _ _ _ _ _ _ _ _ _ _ _ _ _ _ _ _ _ _ _ _ _ _ _ _ W1 HBX hBx hgx b5 h e1 (by omega) (by omega) ?_
            clear e1
            intro v33 v34 v35 v36 v37 v38 v39 v40 v41 v42 v43 v44 v45 v46 v47 v48 v49 v50 v51 w2 hw2
            have hz2 := hw2.size
            go_wp2_with fail
            go_meet
            exact ⟨by rw [unhide ht], by repeat (first | exact Below.refl _ _ | assumption | refine Below.alloc ?_ (by first | (simp; done) | (simp; omega) | omega) _ | refine Below.setCell ?_ (by first | (simp; done) | (simp; omega) | omega) _ | apply Below.drew | refine Below.trans ?_ (Below.mono (by assumption) (by first | (simp; done) | (simp; omega) | omega))), by omega, hide ((unhide HBX).keep hBx hw2)⟩
          · have ht : Hid (tst c b d n k = decide (c k 12 ≤ c (k - 1) 12)) := hide (by unfold tst; rw [e1]; simp; omega)
            refine reg10_c c b d n k len cap g o wr.heap.size _ _ _ _ _ _ _ _ _ _ _ _ _ _ _ _ _ _ _ _ _ _ _ _ _ _ _ _ _ _ _ _ _ _ _ _ _ _ _ _ _ _ _ _ _ _ _ _ _ _ _ _ _ _ _ _ _ _ _ _ _ _ _ _ _ _ _ _ _ _ _ _ _ _ _ _ _ _ _ _ _ _ _ _ _ _ W1 HBX hBx hgx b5 h e1 (by omega) (by omega) xp ?_
            clear e1
            intro v33 v34 v35 v36 v37 v38 v39 v40 v41 v42 v43 v44 v45 v46 v47 v48 v49 v50 v51 w2 hw2
            have hz2 := hw2.size
            go_wp2_with fail
            go_meet
            exact ⟨by rw [unhide ht], by repeat (first | exact Below.refl _ _ | assumption | refine Below.alloc ?_ (by first | (simp; done) | (simp; omega) | omega) _ | refine Below.setCell ?_ (by first | (simp; done) | (simp; omega) | omega) _ | apply Below.drew | refine Below.trans ?_ (Below.mono (by assumption) (by first | (simp; done) | (simp; omega) | omega))), by omega, hide ((unhide HBX).keep hBx hw2)⟩
      case rest =>
        obtain ⟨rfl, hBc, hsc, HBX⟩ := hcut
        clear c0 c1 c2 c3 c4 c5 c6 c7 c8 c9 c10 c11 c12 c13 c14 C1 HC
        have HMc := hide ((unhide HM).below hBc)
        have hBw : Below w.heap.size w wc := by repeat (first | exact Below.refl _ _ | assumption | refine Below.alloc ?_ (by first | (simp; done) | (simp; omega) | omega) _ | refine Below.setCell ?_ (by first | (simp; done) | (simp; omega) | omega) _ | apply Below.drew | refine Below.trans ?_ (Below.mono (by assumption) (by first | (simp; done) | (simp; omega) | omega)))
        have hszc : w.heap.size + 2 ≤ wc.heap.size := by have := hBc.size; omega
        clear HM
        obtain ⟨Bx, hBX⟩ : ∃ Bx, Bx = wr.heap.size := ⟨_, rfl⟩
        rw [← hBX] at HBX hsc
        have hBx2 : w.heap.size + 2 ≤ Bx := by omega
        rw [← hBX]
        clear hBX hBc hB hsz
        cases e1 : tst c b d n k with
        | true =>
          have hres := unhide hr1 (not_hist (unhide HT) hlt (tst_bad e1))
          subst hres
          clear e1 HBX HMc
          go_wp2
          go_step3
          refine fwd_goto ?_
          go_wp2
          (first | rw [fwd_ret] | rw [Exit.noGoto_ret] | skip)
          go_ret
          exact ⟨rfl, hBw⟩
        | false =>
          have E1 := hide e1
          clear e1
          have hlk := (unhide HMc).2.elim fun _ hh => hh.2.look (unhide HWF k 0 hlt (.inl rfl))
          have HL0 := hide (lst_bad (b := b) (n := n) (c := c) (d := d) (k := k))
          go_upto_region 11 with fail
          go_cut [9, 10] (fun s9 s10 wx => ∃ B9, s9 = .pointer (some ⟨B9, 0, none⟩) ∧ s10 = .bool (lastOf c (c k 0) k).isSome ∧ Below wc.heap.size wc wx ∧ B9 < wx.heap.size ∧ Hid (∀ j, lastOf c (c k 0) k = some j → BoxC wx B9 (c j) (b j) (d j)))
          case first =>
            obtain ⟨y0, y1, y2, y3, y4, y5, y6, y7, y8, y9, y10, y11, y12, y13, y14⟩ := unhide HBX
            cases e2 : lastOf c (c k 0) k with
            | none =>
              rw [e2] at hlk
              simp only [Option.map_none, Option.getD_none, Option.isSome_none] at hlk
              unfold zCall at hlk
              have E2 := hide e2
              clear e2
              go_wp2_with fail
              go_meet
              exact ⟨_, rfl, by rw [unhide E2]; rfl, by repeat (first | exact Below.refl _ _ | assumption | refine Below.alloc ?_ (by first | (simp; done) | (simp; omega) | omega) _ | refine Below.setCell ?_ (by first | (simp; done) | (simp; omega) | omega) _ | apply Below.drew | refine Below.trans ?_ (Below.mono (by assumption) (by first | (simp; done) | (simp; omega) | omega))), by simp, hide (fun j hj => by rw [unhide E2] at hj; cases hj)⟩
            | some j =>
              rw [e2] at hlk
              simp only [Option.map_some, Option.getD_some, Option.isSome_some, cvv] at hlk
              have E2 := hide e2
              clear e2
              go_wp2_with fail
              go_meet
              exact ⟨_, rfl, by rw [unhide E2]; rfl, by repeat (first | exact Below.refl _ _ | assumption | refine Below.alloc ?_ (by first | (simp; done) | (simp; omega) | omega) _ | refine Below.setCell ?_ (by first | (simp; done) | (simp; omega) | omega) _ | apply Below.drew | refine Below.trans ?_ (Below.mono (by assumption) (by first | (simp; done) | (simp; omega) | omega))), by simp, hide (fun j' hj => by rw [unhide E2] at hj; cases hj; exact BoxC.new _ _ _ _)⟩
          case rest =>
            obtain ⟨B9, rfl, rfl, hBz, hz0, HBL⟩ := hcut
            have hz1 := hBz.size
            obtain ⟨wd, hwd⟩ : ∃ wd, wd = wc := ⟨_, rfl⟩
            subst hwd
            have HMd := hide ((unhide HMc).below hBz)
            have hBd : Below w.heap.size w wd := by repeat (first | exact Below.refl _ _ | assumption | refine Below.alloc ?_ (by first | (simp; done) | (simp; omega) | omega) _ | refine Below.setCell ?_ (by first | (simp; done) | (simp; omega) | omega) _ | apply Below.drew | refine Below.trans ?_ (Below.mono (by assumption) (by first | (simp; done) | (simp; omega) | omega)))
            have hszd : w.heap.size + 2 ≤ wd.heap.size := by omega
            have HBD := hide ((unhide HBX).keep hsc hBz)
            have hsd : Bx < wd.heap.size := by omega
            clear HMc HBX hBz hBw hszc hz1 hlk hsc
            go_upto_region 12 with fail
            go_cut [10, 66] (fun _ s wx => s = .bool (lstB c d k) ∧ Below wd.heap.size wd wx)
            case first =>
              have e0 : lastOf c (c k 0) k = none ∨ ∃ j, lastOf c (c k 0) k = some j := by cases lastOf c (c k 0) k <;> simp
              rcases e0 with e2 | ⟨j, e2⟩
              · have ht : Hid (lstB c d k = false) := hide (by unfold lstB; rw [e2])
                rw [e2, Option.isSome_none]
                clear e2
                go_wp2_with fail
                go_meet
                exact ⟨by rw [unhide ht], by repeat (first | exact Below.refl _ _ | assumption | refine Below.alloc ?_ (by first | (simp; done) | (simp; omega) | omega) _ | refine Below.setCell ?_ (by first | (simp; done) | (simp; omega) | omega) _ | apply Below.drew | refine Below.trans ?_ (Below.mono (by assumption) (by first | (simp; done) | (simp; omega) | omega)))⟩
              · have ht : Hid (lstB c d k = !(ahdB (c j) (d j) (c k))) := hide (by unfold lstB; rw [e2])
                have hC2 := unhide C2 j k
                obtain ⟨y0, y1, y2, y3, y4, y5, y6, y7, y8, y9, y10, y11, y12, y13, y14⟩ := unhide HBD
                obtain ⟨z0, z1, z2, z3, z4, z5, z6, z7, z8, z9, z10, z11, z12, z13, z14⟩ := unhide HBL j e2
                rw [e2, Option.isSome_some]
                clear e2
                go_wp2_with fail
                refine (hC2 _).mono ?_
                rintro e we ⟨rfl, hbe⟩
                go_wp2_with fail
                go_meet
                exact ⟨by rw [unhide ht], by repeat (first | exact Below.refl _ _ | assumption | refine Below.alloc ?_ (by first | (simp; done) | (simp; omega) | omega) _ | refine Below.setCell ?_ (by first | (simp; done) | (simp; omega) | omega) _ | apply Below.drew | refine Below.trans ?_ (Below.mono (by assumption) (by first | (simp; done) | (simp; omega) | omega)))⟩
            case rest =>
              obtain ⟨rfl, hBz⟩ := hcut
              have hz1 := hBz.size
              obtain ⟨we, hwd⟩ : ∃ wd, wd = wc := ⟨_, rfl⟩
              subst hwd
              have HMe := hide ((unhide HMd).below hBz)
              have hBe : Below w.heap.size w we := by repeat (first | exact Below.refl _ _ | assumption | refine Below.alloc ?_ (by first | (simp; done) | (simp; omega) | omega) _ | refine Below.setCell ?_ (by first | (simp; done) | (simp; omega) | omega) _ | apply Below.drew | refine Below.trans ?_ (Below.mono (by assumption) (by first | (simp; done) | (simp; omega) | omega)))
              have hsze : w.heap.size + 2 ≤ we.heap.size := by omega
              have HBE := hide ((unhide HBD).keep hsd hBz)
              have hse : Bx < we.heap.size := by omega
              clear HMd HBD hBz hBd hszd hz1 hsd HBL hz0
              cases e2 : lstB c d k with
              | true =>
                have hres := unhide hr1 (not_hist (unhide HT) hlt (unhide HL0 e2))
                subst hres
                clear e2 HBE HMe
                go_wp2
                go_step3
                refine fwd_goto ?_
                go_wp2
                (first | rw [fwd_ret] | rw [Exit.noGoto_ret] | skip)
                go_ret
                exact ⟨rfl, hBe⟩
              | false =>
                have E2 := hide e2
                clear e2
                obtain ⟨hM1, hM2⟩ := unhide HMe
                obtain ⟨n1, hn1, hM1⟩ := hM1
                obtain ⟨n2, hn2, hM2⟩ := hM2
                have HM1 := hide hM1
                obtain ⟨U, hput, hM3, hgU⟩ := hM2.put (by unfold maxLen; omega) (unhide HWF k 0 hlt (.inl rfl)) (cvv c b d k)
                have HM3 := hide hM3
                have HGU := hide hgU
                unfold cvv at hput
                obtain ⟨y0, y1, y2, y3, y4, y5, y6, y7, y8, y9, y10, y11, y12, y13, y14⟩ := unhide HBE
                clear hM1 hM2 hM3 hgU HMe
                go_upto_region 14 with fail
                clear y0 y1 y2 y3 y4 y5 y6 y7 y8 y9 y10 y11 y12 y13 y14 hput
                have HBU := hide ((unhide HBE).kept hse (unhide HGU) (by simp; omega))
                have hUs := (unhide HGU).size
                have hBU : Below w.heap.size w U := hBe.grown (unhide HGU) (by omega) (fun r hr => by cases hr; omega)
                have HS := hide ((unhide HM1).kept (unhide HGU) (by simp))
                have hsU : Bx < U.heap.size := by omega
                have hszU : w.heap.size + 2 ≤ U.heap.size := by omega
                clear HM1 HBE HGU hBe hsze hse
                go_cut [73, 74, 75] (fun s73 s74 s75 wx => ∃ gs, s73 = .slice (some ⟨gs, 0, none⟩) (lenS (c k) (d k)) (lenS (c k) (d k)) ∧ s74 = .int .i64 (lenS (c k) (d k)) ∧ s75 = .int .i64 0 ∧ U.heap.size ≤ gs ∧ gs < wx.heap.size ∧ Below U.heap.size U wx ∧ Hid (∀ m, m < lenS (c k) (d k) → wx.cell? ⟨gs, m, none⟩ = some (.int .i64 (stN (c k) m))))
                case first =>
                  obtain ⟨y0, y1, y2, y3, y4, y5, y6, y7, y8, y9, y10, y11, y12, y13, y14⟩ := unhide HBU
                  by_cases hd : d k = true ∧ c k 13 ≠ c k 12
                  · have ht : Hid (lenS (c k) (d k) = 2) := hide (by unfold lenS; rw [if_pos hd])
                    obtain ⟨hd1, hd2⟩ := hd
                    rw [hd1] at y14
                    have hC3 := fun W => steps2_any (c k) (b k) W hd2
                    clear hd1 hd2
                    go_wp2_with fail
                    refine (hC3 _).mono ?_
                    rintro e we ⟨gs, rfl, hgs, hgs2, ⟨hz0, hz1⟩, hbe⟩
                    have HZ := hide (And.intro hz0 hz1)
                    clear hz0 hz1
                    go_wp2_with fail
                    go_meet
                    refine ⟨gs, by rw [unhide ht], by rw [unhide ht]; rfl, rfl, hgs, hgs2, hbe, hide (fun m hm => ?_)⟩
                    rw [unhide ht] at hm
                    match m, hm with
                    | 0, _ => exact (unhide HZ).1
                    | 1, _ => exact (unhide HZ).2
                  · have ht : Hid (lenS (c k) (d k) = 1) := hide (by unfold lenS; rw [if_neg hd])
                    have hC3 := fun W => steps1_any (c k) (b k) (d k) W hd
                    clear hd
                    go_wp2_with fail
                    refine (hC3 _).mono ?_
                    rintro e we ⟨gs, rfl, hgs, hgs2, hz0, hbe⟩
                    have HZ := hide hz0
                    clear hz0
                    go_wp2_with fail
                    go_meet
                    refine ⟨gs, by rw [unhide ht], by rw [unhide ht]; rfl, rfl, hgs, hgs2, hbe, hide (fun m hm => ?_)⟩
                    rw [unhide ht] at hm
                    match m, hm with
                    | 0, _ => exact unhide HZ
                case rest =>
                  obtain ⟨gs, rfl, rfl, rfl, hgs, hgs2, hBz, HZ⟩ := hcut
                  obtain ⟨wd, hwd⟩ : ∃ wd, wd = wc := ⟨_, rfl⟩
                  subst hwd
                  have hBw : Below w.heap.size w wd := by repeat (first | exact Below.refl _ _ | assumption | refine Below.alloc ?_ (by first | (simp; done) | (simp; omega) | omega) _ | refine Below.setCell ?_ (by first | (simp; done) | (simp; omega) | omega) _ | apply Below.drew | refine Below.trans ?_ (Below.mono (by assumption) (by first | (simp; done) | (simp; omega) | omega)))
                  have HSd := hide ((unhide HS).below hBz)
                  have HLd := hide ((unhide HM3).below hBz)
                  have hgs3 : w.heap.size + 2 ≤ gs := by omega
                  clear HS HM3 hBz hBU HBU hgs hsU hszU hUs
                  go_wp2_with fail
                  go_loopw [75] (fun i wq => ∃ m : Nat, m ≤ lenS (c k) (d k) ∧ i = .int .i64 m ∧ Hid (SeenM wq w.heap.size (n1 + m) (fun s => (cntM c d k m s : Int))) ∧ Hid (∀ j, j < m → cnt c d (stN (c k) j) k = 0) ∧ Hid (LastM wq (w.heap.size + 1) (n2 + 1) (fun x => if x = c k 0 then some (cvv c b d k) else (lastOf c x k).map (cvv c b d))) ∧ Below w.heap.size w wq ∧ gs < wq.heap.size ∧ Hid (∀ m, m < lenS (c k) (d k) → wq.cell? ⟨gs, m, none⟩ = some (.int .i64 (stN (c k) m)))) (fun i _ => lenS (c k) (d k) - (intOf i).toNat)
                  case atStart => exact ⟨0, Nat.zero_le _, rfl, hide (by simpa [cntM] using unhide HSd), hide (fun j hj => by omega), HLd, hBw, hgs2, HZ⟩
                  case round =>
                    clear HSd HLd hBw hgs2 HZ
                    obtain ⟨m, hm, rfl, HSq, HQ, HLq, hBq, hgq, HZ⟩ := hrel
                    have hsq := hBq.size
                    by_cases hlm : m < lenS (c k) (d k)
                    · have hz := unhide HZ m hlm
                      have hst : Hid ((Lit.int .i64 (stN (c k) m)).wf = true) := hide (by
                        unfold stN
                        split
                        · exact unhide HWF k 12 hlt (.inr (.inl rfl))
                        · exact unhide HWF k 13 hlt (.inr (.inr rfl)))
                      have hl2 : Hid (m < 2) := hide (by unfold lenS at hlm; split at hlm <;> omega)
                      have hl3 : (m : Int) < 2 := by have := unhide hl2; omega
                      obtain ⟨q, hq⟩ : ∃ q, q = cnt c d (stN (c k) m) k := ⟨_, rfl⟩
                      have hq2 := cnt_le c d (stN (c k) m) k
                      have hlk1 := ((unhide HSq).look (unhide hst)).1
                      rw [cntM_at hlm, ← hq] at hlk1
                      rw [← hq] at hq2
                      have hq3 : (0 : Int) ≤ (q : Int) := by omega
                      have hq4 : (q : Int) ≤ 800 := by omega
                      obtain ⟨U2, hput2, hS2, hg2⟩ := (unhide HSq).put (by have := unhide hl2; unfold maxLen; omega) (unhide hst) (v := (q : Int) + 1) (WalkArith.wf_i64 (by omega))
                      have hlk2 := (hS2.look (unhide hst)).1
                      rw [if_pos rfl] at hlk2
                      rw [cntM_step hlm hq.symm] at hS2
                      have HS2 := hide hS2
                      have HG2 := hide hg2
                      have hQ := hide hq
                      have hU2 := hg2.size
                      have hB2 : Below w.heap.size w U2 := hBq.grown hg2 hsq (fun r hr => by cases hr; omega)
                      clear hS2 hg2 hq
                      by_cases hq0 : q = 0
                      · have HQ0 := hide hq0
                        have hq5 : (q : Int) ≤ 0 := by omega
                        have hq6 : q ≤ 0 := by omega
                        clear hq0
                        have HL2 := hide ((unhide HLq).kept (unhide HG2) (by simp))
                        have HZ2 := hide (fun j (hj : j < lenS (c k) (d k)) => ((unhide HG2).cell_far ⟨gs, j, none⟩ hgq (by simp; omega)).trans (unhide HZ j hj))
                        have HQ2 : Hid (∀ j, j < m + 1 → cnt c d (stN (c k) j) k = 0) := hide (fun j hj => by
                          by_cases e : j = m
                          · subst e; exact (unhide hQ).symm.trans (unhide HQ0)
                          · exact unhide HQ j (by omega))
                        go_wp2
                        go_roundw
                        case measure => simp [intOf]; omega
                        case rel => exact ⟨m + 1, by omega, by go_num, HS2, HQ2, HL2, hB2, by omega, HZ2⟩
                      · have hres := unhide hr1 (not_hist (unhide HT) hlt (good_not (m := m) hlm (by rw [← unhide hQ]; exact hq0)))
                        subst hres
                        have hq5 : (1 : Int) ≤ (q : Int) := by omega
                        have hq6 : 1 ≤ q := by omega
                        have hq7 : 0 < q := by omega
                        go_wp2
                        go_step3
                        refine fwd_goto ?_
                        go_wp2
                        (first | rw [fwd_ret] | rw [Exit.noGoto_ret] | skip)
                        go_ret
                        exact ⟨rfl, hB2⟩
                    · obtain rfl : m = lenS (c k) (d k) := by omega
                      have hT := hide ((hist_good (unhide HT)).2 (good_end (unhide E1) (unhide E2) (unhide HQ)))
                      have HMn : Hid (Maps2 wr w.heap.size (w.heap.size + 1) c b d (k + 1)) := hide (by
                        refine ⟨⟨n1 + lenS (c k) (d k), by unfold lenS; split <;> omega, ?_⟩, n2 + 1, by omega, ?_⟩
                        · have h := unhide HSq
                          rw [show (fun s => (cntM c d k (lenS (c k) (d k)) s : Int)) = fun s => (cnt c d s (k + 1) : Int) from funext (fun s => by rw [cntM_end])] at h
                          exact h
                        · rw [← last_end]; exact unhide HLq)
                      go_wp2
                      go_roundw
                      case measure => simp [intOf]; omega
                      case rel => exact ⟨k + 1, by omega, by go_num, hT, HMn, hBq, by omega⟩
    · obtain rfl : k = len := by omega
      have hres := unhide hr0 (unhide HT)
      subst hres
      go_wp2
      (first | rw [fwd_ret] | rw [Exit.noGoto_ret] | skip)
      go_ret
      exact ⟨rfl, hB⟩

theorem chk10_any (A : Option Addr) (len cap : Nat) (c : Nat → Nat → Int) (b d : Nat → Bool) (n : Int) (w : World) (H : CallOk w A len c b d)
    (HW : ∀ k j, k < len → j = 0 ∨ j = 12 ∨ j = 13 → (Lit.int .i64 (c k j)).wf = true) :
    Calls Try.prog 9 #[.slice A len cap, .int .i64 n] w fun e w' => e = .returned (.int .i64 (chkI c b d n len)) ∧ Below w.heap.size w w' := by
  by_cases h1 : n < 1 ∨ 8 < n
  · rw [show chkI c b d n len = 2 by unfold chkI; rw [if_pos h1]]
    exact chk10_bad A len cap n h1 w
  by_cases h2 : 400 < len
  · rw [show chkI c b d n len = 3 by unfold chkI; rw [if_neg h1, if_pos h2]]
    exact chk10_len A len cap n (by omega) (by omega) h2 w
  exact chk10_ok A len cap c b d n (by omega) (by omega) (by omega) w H HW
end Go.Proofs.Ytahfoogcdgjimaa
