/- The walks of package op, further: is an operation bare, may it be. -/
import Derived.Test.YtbkaopeajjechaaGrC
import Derived.Test.YtbkaopeajjechaaCh
import Derived.Test.YtbkaopeajjechaaOp
namespace Go.Proofs.Ytbkaopeajjechaa
set_option linter.unusedVariables false
set_option linter.unusedSimpArgs false
open Go.RowKit Go.Maps

/-- An operation's numbers: its kind, A, B, C, Field, Shape, X, Y. -/
abbrev opV (z : Nat → Int) : Value := .agg #[.int .i64 (z 0), .int .i64 (z 1), .int .i64 (z 2), .int .i64 (z 3), .int .i64 (z 4), .int .i64 (z 5), .int .i64 (z 6), .int .i64 (z 7)]
def kOf (z : Nat → Int) : Nat := if 1 ≤ z 0 ∧ z 0 ≤ 11 then (z 0).toNat else 0
/-- Is its kind one, and what it does not name 0? -/
def bareP (z : Nat → Int) : Prop := (1 ≤ z 0 ∧ z 0 ≤ 11) ∧ ∀ p, p < 7 → p ∉ nmL (z 0).toNat → z (p + 1) = 0

set_option maxRecDepth 100000 in
theorem rows_at (n k : Nat) (h : k ≤ 11) (W : World) : (Instr.index 163 (rowsV n) (.int .i64 (k : Int))).run Try.prog W = .ok (.agg #[.string (nmS k), .slice (nmA n k) (nmL k).length (nmL k).length]) W := by
  match k, h with
  | 0, _ | 1, _ | 2, _ | 3, _ | 4, _ | 5, _ | 6, _ | 7, _ | 8, _ | 9, _ | 10, _ | 11, _ => rfl

set_option maxRecDepth 100000 in
theorem parts_at (p : Nat) (h : p < 7) (W : World) : (Instr.index 118 partsV (.int .i64 (p : Int))).run Try.prog W = .ok (partV p) W := by
  match p, h with
  | 0, _ | 1, _ | 2, _ | 3, _ | 4, _ | 5, _ | 6, _ => rfl

theorem nmA_gt {n k : Nat} {b : Addr} (h : nmA n k = some b) : n < b.block := by
  unfold nmA at h
  split at h <;> first | (cases h; done) | (injection h with h; subst h; simp <;> omega)

theorem NmOk.set {W : World} {A : Option Addr} {l : List Nat} (h : NmOk W A l) {b o : Nat} (hb : ∀ c, A = some c → b < c.block) (v : Value) : NmOk (W.setCell ⟨b, o, none⟩ v) A l := fun hl => by
  obtain ⟨g, rfl, hlt, hc⟩ := h hl
  have := hb _ rfl
  refine ⟨g, rfl, by rw [World.size_setCell]; exact hlt, fun i x hx => ?_⟩
  rw [World.cell?_setCell_other _ _ _ _ (fun e => by injection e with e _ _; simp at this; omega)]
  exact hc i x hx

set_option maxHeartbeats 4000000 in
theorem opOf_any (k : Nat) (h1 : 1 ≤ k) (h2 : k ≤ 11) (w : World) :
    Calls Try.prog 81 #[.int .i64 (k : Int)] w fun e w' => (∃ A, e = .returned (.tuple #[.agg #[.string (nmS k), .slice A (nmL k).length (nmL k).length], .bool true]) ∧ NmOk w' A (nmL k)) ∧ Below w.heap.size w w' := by
  have c1 := hide (fun W => rows_any W)
  have g1 : ¬ ((k : Int) ≤ 0) := by omega
  have g2 : ¬ ((11 : Int) < (k : Int)) := by omega
  have hat := fun n W => rows_at n k h2 W
  go_enter Try.func81, Try.ntmps81
  go_wp2_with fail
  refine (unhide c1 _).mono ?_
  rintro e w2 ⟨rfl, hn, hb2⟩
  have hn1 := hide (hn k)
  clear hn
  obtain ⟨hc, hf⟩ := bcell hb2
  have k1 := (hc w.heap.size 0 (by simp)).trans (show _ = some (Value.string { data := #[] }) by go_simp)
  have k2 := (hc w.heap.size 1 (by simp)).trans (show _ = some (Value.slice none 0 0) by go_simp)
  have k3 := (hf w.heap.size 0 (by simp)).trans (show _ = false by go_simp)
  have k4 := (hf w.heap.size 1 (by simp)).trans (show _ = false by go_simp)
  clear hc hf
  have hz := hb2.size
  simp only [World.size_alloc] at hz hn1
  have k5 : w.heap.size < w2.heap.size := by omega
  go_wp2
  refine bodyPost_ret (v := .tuple #[.agg #[.string (nmS k), .slice (nmA (w.heap.size + 1) k) (nmL k).length (nmL k).length], .bool true]) (by simp only [results, Try.results81]; go_simp) rfl ?_
  refine ⟨⟨_, rfl, ((unhide hn1).set (fun c h => by have := nmA_gt h; omega) _).set (fun c h => by have := nmA_gt h; omega) _⟩, by repeat (first | exact Below.refl _ _ | assumption | refine Below.alloc ?_ (by first | (simp; done) | (simp; omega) | omega) _ | refine Below.setCell ?_ (by first | (simp; done) | (simp; omega) | omega) _ | apply Below.drew | refine Below.trans ?_ (Below.mono (by assumption) (by first | (simp; done) | (simp; omega) | omega)))⟩

/-- An operation's numbers in a variable. -/
def Rest (W : World) (rb : Nat) (z : Nat → Int) : Prop := ∀ i, i < 8 → W.cell? ⟨rb, i, none⟩ = some (.int .i64 (z i)) ∧ W.frozen? ⟨rb, i, none⟩ = false
def upd (z : Nat → Int) (p : Nat) (n : Int) (i : Nat) : Int := if i = p then n else z i

theorem Rest.lt {W : World} {rb : Nat} {z : Nat → Int} (h : Rest W rb z) : rb < W.heap.size := block_lt (h 0 (by omega)).1
theorem Rest.keep {w W : World} {rb : Nat} {z : Nat → Int} (h : Rest w rb z) (hb : Below w.heap.size w W) : Rest W rb z := fun i hi =>
  ⟨(hb.cell (p := ⟨rb, i, none⟩) h.lt).trans (h i hi).1, (hb.frozen (p := ⟨rb, i, none⟩) h.lt).trans (h i hi).2⟩
theorem Rest.set {W : World} {rb : Nat} {z : Nat → Int} (h : Rest W rb z) (p : Nat) (n : Int) (hp : p < 8) : Rest (W.setCell ⟨rb, p, none⟩ (.int .i64 n)) rb (upd z p n) := fun i hi => by
  refine ⟨?_, by rw [World.frozen?_setCell]; exact (h i hi).2⟩
  unfold upd
  by_cases e : i = p
  · subst e
    rw [if_pos rfl, World.cell?_setCell_same' _ _ _ (by rw [(h i hi).1]; rfl)]
  · rw [if_neg e, World.cell?_setCell_other _ _ _ _ (fun h => by injection h with _ h _; exact e h.symm)]
    exact (h i hi).1

theorem run_neq_func_nil {P : Program} (w : World) {t : TypeId} (f : Fn) (c a : Array Value) (h : (match P.underlying t with | some (.func ..) => true | _ => false) = true) :
    (binOp .neq t (.func f c a) .nilFunc).run P w = .ok (.bool true) w := by
  have he : (Op.equal t (.func f c a) .nilFunc).run P w = .ok false w := run_equalIn_func_nil w 9999 f c a h
  simp only [binOp]
  simp [he]

theorem run_neq_nil_nil {P : Program} (w : World) {t : TypeId} (h : (match P.underlying t with | some (.func ..) => true | _ => false) = true) :
    (binOp .neq t .nilFunc .nilFunc).run P w = .ok (.bool false) w := by
  have he : (Op.equal t .nilFunc .nilFunc).run P w = .ok true w := run_equalIn_nil_nil w 9999 h
  simp only [binOp]
  simp [he]

@[local go_sem] theorem neq_f (w : World) (f : Fn) (c a : Array Value) : (binOp .neq 114 (.func f c a) .nilFunc).run Try.prog w = .ok (.bool true) w := run_neq_func_nil w f c a (by kernel_rfl)
@[local go_sem] theorem neq_n (w : World) : (binOp .neq 114 .nilFunc .nilFunc).run Try.prog w = .ok (.bool false) w := run_neq_nil_nil w (by kernel_rfl)

set_option maxHeartbeats 1000000 in
theorem set0_any (n : Int) (rb : Nat) (z : Nat → Int) (w : World) (H : Rest w rb z) :
    Calls Try.prog 82 #[partV 0, .pointer (some ⟨rb, 0, none⟩), .int .i64 n] w fun e w' => e = .returned (.tuple #[]) ∧ Rest w' rb (upd z 1 n) ∧ Chg (fun b => b = rb) w w' := by
  have hl := H.lt
  obtain ⟨hq1, hq2⟩ := H 1 (by omega)
  have HH := hide H
  clear H
  simp only [partV]
  go_enter Try.func82, Try.ntmps82
  go_wp2
  first | go_end0 | refine bodyPost_ret (results_none rfl _ _ _) rfl ?_
  exact ⟨rfl, ((unhide HH).set 1 n (by omega)).keep ((Below.refl _ _).alloc (Nat.le_refl _) _), ((Chg.refl _ _).set1 _).alloc _⟩

set_option maxHeartbeats 1000000 in
theorem get0_any (rb : Nat) (z : Nat → Int) (w : World) (H : Rest w rb z) :
    Calls Try.prog 54 #[partV 0, .pointer (some ⟨rb, 0, none⟩)] w fun e w' => e = .returned (.int .i64 (z 1)) ∧ Below w.heap.size w w' := by
  have hl := H.lt
  obtain ⟨hq1, hq2⟩ := H 1 (by omega)
  clear H
  simp only [partV]
  go_enter Try.func54, Try.ntmps54
  go_wp2
  go_ret
  exact ⟨rfl, by repeat (first | exact Below.refl _ _ | assumption | refine Below.alloc ?_ (by first | (simp; done) | (simp; omega) | omega) _ | refine Below.setCell ?_ (by first | (simp; done) | (simp; omega) | omega) _ | apply Below.drew | refine Below.trans ?_ (Below.mono (by assumption) (by first | (simp; done) | (simp; omega) | omega)))⟩
set_option maxHeartbeats 1000000 in
theorem set1_any (n : Int) (rb : Nat) (z : Nat → Int) (w : World) (H : Rest w rb z) :
    Calls Try.prog 82 #[partV 1, .pointer (some ⟨rb, 0, none⟩), .int .i64 n] w fun e w' => e = .returned (.tuple #[]) ∧ Rest w' rb (upd z 2 n) ∧ Chg (fun b => b = rb) w w' := by
  have hl := H.lt
  obtain ⟨hq1, hq2⟩ := H 2 (by omega)
  have HH := hide H
  clear H
  simp only [partV]
  go_enter Try.func82, Try.ntmps82
  go_wp2
  first | go_end0 | refine bodyPost_ret (results_none rfl _ _ _) rfl ?_
  exact ⟨rfl, ((unhide HH).set 2 n (by omega)).keep ((Below.refl _ _).alloc (Nat.le_refl _) _), ((Chg.refl _ _).set1 _).alloc _⟩

set_option maxHeartbeats 1000000 in
theorem get1_any (rb : Nat) (z : Nat → Int) (w : World) (H : Rest w rb z) :
    Calls Try.prog 54 #[partV 1, .pointer (some ⟨rb, 0, none⟩)] w fun e w' => e = .returned (.int .i64 (z 2)) ∧ Below w.heap.size w w' := by
  have hl := H.lt
  obtain ⟨hq1, hq2⟩ := H 2 (by omega)
  clear H
  simp only [partV]
  go_enter Try.func54, Try.ntmps54
  go_wp2
  go_ret
  exact ⟨rfl, by repeat (first | exact Below.refl _ _ | assumption | refine Below.alloc ?_ (by first | (simp; done) | (simp; omega) | omega) _ | refine Below.setCell ?_ (by first | (simp; done) | (simp; omega) | omega) _ | apply Below.drew | refine Below.trans ?_ (Below.mono (by assumption) (by first | (simp; done) | (simp; omega) | omega)))⟩
set_option maxHeartbeats 1000000 in
theorem set2_any (n : Int) (rb : Nat) (z : Nat → Int) (w : World) (H : Rest w rb z) :
    Calls Try.prog 82 #[partV 2, .pointer (some ⟨rb, 0, none⟩), .int .i64 n] w fun e w' => e = .returned (.tuple #[]) ∧ Rest w' rb (upd z 3 n) ∧ Chg (fun b => b = rb) w w' := by
  have hl := H.lt
  obtain ⟨hq1, hq2⟩ := H 3 (by omega)
  have HH := hide H
  clear H
  simp only [partV]
  go_enter Try.func82, Try.ntmps82
  go_wp2
  first | go_end0 | refine bodyPost_ret (results_none rfl _ _ _) rfl ?_
  exact ⟨rfl, ((unhide HH).set 3 n (by omega)).keep ((Below.refl _ _).alloc (Nat.le_refl _) _), ((Chg.refl _ _).set1 _).alloc _⟩

set_option maxHeartbeats 1000000 in
theorem get2_any (rb : Nat) (z : Nat → Int) (w : World) (H : Rest w rb z) :
    Calls Try.prog 54 #[partV 2, .pointer (some ⟨rb, 0, none⟩)] w fun e w' => e = .returned (.int .i64 (z 3)) ∧ Below w.heap.size w w' := by
  have hl := H.lt
  obtain ⟨hq1, hq2⟩ := H 3 (by omega)
  clear H
  simp only [partV]
  go_enter Try.func54, Try.ntmps54
  go_wp2
  go_ret
  exact ⟨rfl, by repeat (first | exact Below.refl _ _ | assumption | refine Below.alloc ?_ (by first | (simp; done) | (simp; omega) | omega) _ | refine Below.setCell ?_ (by first | (simp; done) | (simp; omega) | omega) _ | apply Below.drew | refine Below.trans ?_ (Below.mono (by assumption) (by first | (simp; done) | (simp; omega) | omega)))⟩
set_option maxHeartbeats 1000000 in
theorem set3_any (n : Int) (rb : Nat) (z : Nat → Int) (w : World) (H : Rest w rb z) :
    Calls Try.prog 82 #[partV 3, .pointer (some ⟨rb, 0, none⟩), .int .i64 n] w fun e w' => e = .returned (.tuple #[]) ∧ Rest w' rb (upd z 4 n) ∧ Chg (fun b => b = rb) w w' := by
  have hl := H.lt
  obtain ⟨hq1, hq2⟩ := H 4 (by omega)
  have HH := hide H
  clear H
  simp only [partV]
  go_enter Try.func82, Try.ntmps82
  go_wp2
  first | go_end0 | refine bodyPost_ret (results_none rfl _ _ _) rfl ?_
  exact ⟨rfl, ((unhide HH).set 4 n (by omega)).keep ((Below.refl _ _).alloc (Nat.le_refl _) _), ((Chg.refl _ _).set1 _).alloc _⟩

set_option maxHeartbeats 1000000 in
theorem get3_any (rb : Nat) (z : Nat → Int) (w : World) (H : Rest w rb z) :
    Calls Try.prog 54 #[partV 3, .pointer (some ⟨rb, 0, none⟩)] w fun e w' => e = .returned (.int .i64 (z 4)) ∧ Below w.heap.size w w' := by
  have hl := H.lt
  obtain ⟨hq1, hq2⟩ := H 4 (by omega)
  clear H
  simp only [partV]
  go_enter Try.func54, Try.ntmps54
  go_wp2
  go_ret
  exact ⟨rfl, by repeat (first | exact Below.refl _ _ | assumption | refine Below.alloc ?_ (by first | (simp; done) | (simp; omega) | omega) _ | refine Below.setCell ?_ (by first | (simp; done) | (simp; omega) | omega) _ | apply Below.drew | refine Below.trans ?_ (Below.mono (by assumption) (by first | (simp; done) | (simp; omega) | omega)))⟩
set_option maxHeartbeats 1000000 in
theorem set4_any (n : Int) (rb : Nat) (z : Nat → Int) (w : World) (H : Rest w rb z) :
    Calls Try.prog 82 #[partV 4, .pointer (some ⟨rb, 0, none⟩), .int .i64 n] w fun e w' => e = .returned (.tuple #[]) ∧ Rest w' rb (upd z 5 n) ∧ Chg (fun b => b = rb) w w' := by
  have hl := H.lt
  obtain ⟨hq1, hq2⟩ := H 5 (by omega)
  have HH := hide H
  clear H
  simp only [partV]
  go_enter Try.func82, Try.ntmps82
  go_wp2
  first | go_end0 | refine bodyPost_ret (results_none rfl _ _ _) rfl ?_
  exact ⟨rfl, ((unhide HH).set 5 n (by omega)).keep ((Below.refl _ _).alloc (Nat.le_refl _) _), ((Chg.refl _ _).set1 _).alloc _⟩

set_option maxHeartbeats 1000000 in
theorem get4_any (rb : Nat) (z : Nat → Int) (w : World) (H : Rest w rb z) :
    Calls Try.prog 54 #[partV 4, .pointer (some ⟨rb, 0, none⟩)] w fun e w' => e = .returned (.int .i64 (z 5)) ∧ Below w.heap.size w w' := by
  have hl := H.lt
  obtain ⟨hq1, hq2⟩ := H 5 (by omega)
  clear H
  simp only [partV]
  go_enter Try.func54, Try.ntmps54
  go_wp2
  go_ret
  exact ⟨rfl, by repeat (first | exact Below.refl _ _ | assumption | refine Below.alloc ?_ (by first | (simp; done) | (simp; omega) | omega) _ | refine Below.setCell ?_ (by first | (simp; done) | (simp; omega) | omega) _ | apply Below.drew | refine Below.trans ?_ (Below.mono (by assumption) (by first | (simp; done) | (simp; omega) | omega)))⟩
set_option maxHeartbeats 1000000 in
theorem set5_any (n : Int) (rb : Nat) (z : Nat → Int) (w : World) (H : Rest w rb z) :
    Calls Try.prog 82 #[partV 5, .pointer (some ⟨rb, 0, none⟩), .int .i64 n] w fun e w' => e = .returned (.tuple #[]) ∧ Rest w' rb (upd z 6 n) ∧ Chg (fun b => b = rb) w w' := by
  have hl := H.lt
  obtain ⟨hq1, hq2⟩ := H 6 (by omega)
  have HH := hide H
  clear H
  simp only [partV]
  go_enter Try.func82, Try.ntmps82
  go_wp2
  first | go_end0 | refine bodyPost_ret (results_none rfl _ _ _) rfl ?_
  exact ⟨rfl, ((unhide HH).set 6 n (by omega)).keep ((Below.refl _ _).alloc (Nat.le_refl _) _), ((Chg.refl _ _).set1 _).alloc _⟩

set_option maxHeartbeats 1000000 in
theorem get5_any (rb : Nat) (z : Nat → Int) (w : World) (H : Rest w rb z) :
    Calls Try.prog 54 #[partV 5, .pointer (some ⟨rb, 0, none⟩)] w fun e w' => e = .returned (.int .i64 (z 6)) ∧ Below w.heap.size w w' := by
  have hl := H.lt
  obtain ⟨hq1, hq2⟩ := H 6 (by omega)
  clear H
  simp only [partV]
  go_enter Try.func54, Try.ntmps54
  go_wp2
  go_ret
  exact ⟨rfl, by repeat (first | exact Below.refl _ _ | assumption | refine Below.alloc ?_ (by first | (simp; done) | (simp; omega) | omega) _ | refine Below.setCell ?_ (by first | (simp; done) | (simp; omega) | omega) _ | apply Below.drew | refine Below.trans ?_ (Below.mono (by assumption) (by first | (simp; done) | (simp; omega) | omega)))⟩
set_option maxHeartbeats 1000000 in
theorem set6_any (n : Int) (rb : Nat) (z : Nat → Int) (w : World) (H : Rest w rb z) :
    Calls Try.prog 82 #[partV 6, .pointer (some ⟨rb, 0, none⟩), .int .i64 n] w fun e w' => e = .returned (.tuple #[]) ∧ Rest w' rb (upd z 7 n) ∧ Chg (fun b => b = rb) w w' := by
  have hl := H.lt
  obtain ⟨hq1, hq2⟩ := H 7 (by omega)
  have HH := hide H
  clear H
  simp only [partV]
  go_enter Try.func82, Try.ntmps82
  go_wp2
  first | go_end0 | refine bodyPost_ret (results_none rfl _ _ _) rfl ?_
  exact ⟨rfl, ((unhide HH).set 7 n (by omega)).keep ((Below.refl _ _).alloc (Nat.le_refl _) _), ((Chg.refl _ _).set1 _).alloc _⟩

set_option maxHeartbeats 1000000 in
theorem get6_any (rb : Nat) (z : Nat → Int) (w : World) (H : Rest w rb z) :
    Calls Try.prog 54 #[partV 6, .pointer (some ⟨rb, 0, none⟩)] w fun e w' => e = .returned (.int .i64 (z 7)) ∧ Below w.heap.size w w' := by
  have hl := H.lt
  obtain ⟨hq1, hq2⟩ := H 7 (by omega)
  clear H
  simp only [partV]
  go_enter Try.func54, Try.ntmps54
  go_wp2
  go_ret
  exact ⟨rfl, by repeat (first | exact Below.refl _ _ | assumption | refine Below.alloc ?_ (by first | (simp; done) | (simp; omega) | omega) _ | refine Below.setCell ?_ (by first | (simp; done) | (simp; omega) | omega) _ | apply Below.drew | refine Below.trans ?_ (Below.mono (by assumption) (by first | (simp; done) | (simp; omega) | omega)))⟩

theorem set_any (p : Nat) (hp : p < 7) (n : Int) (rb : Nat) (z : Nat → Int) (w : World) (H : Rest w rb z) :
    Calls Try.prog 82 #[partV p, .pointer (some ⟨rb, 0, none⟩), .int .i64 n] w fun e w' => e = .returned (.tuple #[]) ∧ Rest w' rb (upd z (p + 1) n) ∧ Chg (fun b => b = rb) w w' :=
  match p, hp with
  | 0, _ => set0_any n rb z w H
  | 1, _ => set1_any n rb z w H
  | 2, _ => set2_any n rb z w H
  | 3, _ => set3_any n rb z w H
  | 4, _ => set4_any n rb z w H
  | 5, _ => set5_any n rb z w H
  | 6, _ => set6_any n rb z w H

theorem get_any (p : Nat) (hp : p < 7) (rb : Nat) (z : Nat → Int) (w : World) (H : Rest w rb z) :
    Calls Try.prog 54 #[partV p, .pointer (some ⟨rb, 0, none⟩)] w fun e w' => e = .returned (.int .i64 (z (p + 1))) ∧ Below w.heap.size w w' :=
  match p, hp with
  | 0, _ => get0_any rb z w H
  | 1, _ => get1_any rb z w H
  | 2, _ => get2_any rb z w H
  | 3, _ => get3_any rb z w H
  | 4, _ => get4_any rb z w H
  | 5, _ => get5_any rb z w H
  | 6, _ => get6_any rb z w H
end Go.Proofs.Ytbkaopeajjechaa
