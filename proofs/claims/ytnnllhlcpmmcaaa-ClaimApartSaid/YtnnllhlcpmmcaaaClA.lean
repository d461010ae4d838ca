/- Package claim: a machine in memory; how it ends, how it begins, what it tells at its end. -/
import Derived.Test.YtnnllhlcpmmcaaaByB
import Derived.Deep.RegionHeld3
import Derived.Laws.EntriesVeiled
namespace Go.Proofs.Ytnnllhlcpmmcaaa
set_option linter.unusedVariables false
set_option linter.unusedSimpArgs false
open Go.RowKit

def up (c : Nat → Value) (i : Nat) (v : Value) : Nat → Value := fun j => if j = i then v else c j

/-- A machine: block m holds its fifteen cells. -/
def IsM (W : World) (m : Nat) (c : Nat → Value) : Prop := m < W.heap.size ∧ ∀ i, i < 15 → W.cell? ⟨m, i, none⟩ = some (c i) ∧ W.frozen? ⟨m, i, none⟩ = false

theorem IsM.keep {w W : World} {m : Nat} {c : Nat → Value} (H : IsM w m c) (hb : Below w.heap.size w W) : IsM W m c :=
  ⟨Nat.lt_of_lt_of_le H.1 hb.size, fun i hi => ⟨(hb.cell (p := ⟨m, i, none⟩) H.1).trans (H.2 i hi).1, (hb.frozen (p := ⟨m, i, none⟩) H.1).trans (H.2 i hi).2⟩⟩
theorem IsM.alloc {W : World} {m : Nat} {c : Nat → Value} (H : IsM W m c) (o : Obj) : IsM (W.alloc o) m c := H.keep ((Below.refl _ _).alloc (Nat.le_refl _) o)
theorem IsM.set {W : World} {m i : Nat} {c : Nat → Value} (H : IsM W m c) (hi : i < 15) (v : Value) : IsM (W.setCell ⟨m, i, none⟩ v) m (up c i v) :=
  ⟨by simpa using H.1, fun j hj => ⟨by
    by_cases e : j = i
    · subst e
      rw [World.cell?_setCell_same _ _ _ (H.2 j hj).1]
      simp [up]
    · rw [World.cell?_setCell_other _ _ _ _ (fun x => by injection x with _ x _; omega)]
      simpa [up, e] using (H.2 j hj).1, by rw [World.frozen?_setCell]; exact (H.2 j hj).2⟩⟩
theorem IsM.far {W : World} {m g q : Nat} {c : Nat → Value} (H : IsM W m c) (hg : g ≠ m) (v : Value) : IsM (W.setCell ⟨g, q, none⟩ v) m c :=
  ⟨by simpa using H.1, fun j hj => ⟨by
    rw [World.cell?_setCell_other _ _ _ _ (fun x => by injection x with x _ _; omega)]
    exact (H.2 j hj).1, by rw [World.frozen?_setCell]; exact (H.2 j hj).2⟩⟩
theorem IsM.drew {W : World} {m : Nat} {c : Nat → Value} (H : IsM W m c) : IsM W.drew m c := H.keep ((Below.refl _ _).drew)
theorem IsM.congr {W : World} {m : Nat} {c d : Nat → Value} (H : IsM W m c) (e : ∀ i, i < 15 → c i = d i) : IsM W m d := ⟨H.1, fun i hi => by rw [← e i hi]; exact H.2 i hi⟩

theorem gr_below {w W : World} (hb : Below w.heap.size w W) (row : Option Nat) : w.grownBy W row := ⟨hb.os, hb.tape, hb.output, hb.size, fun i hi _ => hb.block i hi⟩
theorem gr_trans {A B C : World} {row : Option Nat} (h : A.grownBy B row) (k : B.grownBy C row) : A.grownBy C row :=
  ⟨k.os.trans h.os, k.tape.trans h.tape, k.output.trans h.output, Nat.le_trans h.size k.size, fun i hi hne => (k.block i (Nat.lt_of_lt_of_le hi h.size) hne).trans (h.block i hi hne)⟩
theorem gr_then {w A B : World} {row : Option Nat} (h : w.grownBy A row) (hb : Below A.heap.size A B) : w.grownBy B row := gr_trans h (gr_below hb row)
theorem gr_refl (w : World) (r : Option Nat) : w.grownBy w r := gr_below (Below.refl _ _) r
theorem gr_alloc {w W : World} {r : Option Nat} (h : w.grownBy W r) (o : Obj) : w.grownBy (W.alloc o) r := gr_then h ((Below.refl _ _).alloc (Nat.le_refl _) o)
theorem gr_drew {w W : World} {r : Option Nat} (h : w.grownBy W r) : w.grownBy W.drew r := gr_then h ((Below.refl _ _).drew)
theorem gr_set {w W : World} {m i : Nat} (h : w.grownBy W (some m)) (v : Value) : w.grownBy (W.setCell ⟨m, i, none⟩ v) (some m) :=
  ⟨h.os, h.tape, h.output, by simpa [World.setCell] using h.size, fun j hj hne => (Below.heap_setCell W ⟨m, i, none⟩ v j (fun e => hne (by rw [e]))).trans (h.block j hj hne)⟩
theorem gr_new {w W : World} {g i : Nat} {r : Option Nat} (h : w.grownBy W r) (hg : w.heap.size ≤ g) (v : Value) : w.grownBy (W.setCell ⟨g, i, none⟩ v) r :=
  ⟨h.os, h.tape, h.output, by simpa [World.setCell] using h.size, fun j hj hne => (Below.heap_setCell W ⟨g, i, none⟩ v j (fun e => by have : j = g := e; omega)).trans (h.block j hj hne)⟩

/-- What a call may have done with a machine: new blocks, and the machine's cells. -/
def McTo (w w' : World) (m : Nat) (c : Nat → Value) : Prop := w.grownBy w' (some m) ∧ IsM w' m c

/-- A machine's end. -/
def endC (c : Nat → Value) (e a g : Int) : Nat → Value := up (up (up (up c 6 (.int .i64 4)) 12 (.int .i64 e)) 13 (.int .i64 a)) 14 (.int .i64 g)

set_option maxHeartbeats 1000000 in
theorem end_any (m : Nat) (c : Nat → Value) (e a g : Int) (w : World) (H : IsM w m c) (h6 : ∃ p, c 6 = .int .i64 p) (ho : ∃ x y z, c 12 = .int .i64 x ∧ c 13 = .int .i64 y ∧ c 14 = .int .i64 z) :
    Calls Try.prog 60 #[.pointer (some ⟨m, 0, none⟩), .agg #[.int .i64 e, .int .i64 a, .int .i64 g]] w
      fun en w' => en = .returned (.tuple #[.agg #[.int .i64 0, .int .i64 0, .int .u64 0, .int .u64 0], .bool false]) ∧ McTo w w' m (endC c e a g) := by
  have HH := hide H
  obtain ⟨p, e6⟩ := h6
  obtain ⟨x, y, z, e12, e13, e14⟩ := ho
  have hm := H.1
  have hne1 : m ≠ w.heap.size := by omega
  have hne2 : m ≠ w.heap.size + 1 := by omega
  have hne3 : w.heap.size ≠ m := by omega
  have hne4 : w.heap.size + 1 ≠ m := by omega
  obtain ⟨x6, f6⟩ := H.2 6 (by omega)
  obtain ⟨x12, f12⟩ := H.2 12 (by omega)
  obtain ⟨x13, f13⟩ := H.2 13 (by omega)
  obtain ⟨x14, f14⟩ := H.2 14 (by omega)
  rw [e6] at x6
  rw [e12] at x12
  rw [e13] at x13
  rw [e14] at x14
  clear H e6 e12 e13 e14
  go_enter Try.func60, Try.ntmps60
  go_wp2
  go_region
  all_goals go_wp2
  all_goals (refine bodyPost_ret (v := .tuple #[.agg #[.int .i64 0, .int .i64 0, .int .u64 0, .int .u64 0], .bool false]) (by simp only [results, Try.results60]; go_simp) rfl ?_)
  all_goals refine ⟨rfl, ?_, ?_⟩
  all_goals first
    | (repeat (first | (with_reducible exact gr_refl _ _) | (with_reducible refine gr_drew ?_) | (with_reducible refine gr_alloc ?_ _) | (with_reducible refine gr_set ?_ _))); done
    | (unfold endC; (repeat (first | (with_reducible exact unhide HH) | (with_reducible refine IsM.drew ?_) | (with_reducible refine IsM.alloc ?_ _) | (with_reducible refine IsM.set ?_ (by omega) _))); done)

set_option maxHeartbeats 1000000 in
theorem first_any (m : Nat) (c : Nat → Value) (a : Int) (w : World) (H : IsM w m c) (h6 : ∃ p, c 6 = .int .i64 p) :
    Calls Try.prog 37 #[.pointer (some ⟨m, 0, none⟩), .int .u64 a] w
      fun en w' => en = .returned (.tuple #[.agg #[.int .i64 1, .int .i64 1, .int .u64 0, .int .u64 0], .bool true]) ∧ McTo w w' m (up c 6 (.int .i64 2)) := by
  have HH := hide H
  obtain ⟨p, e6⟩ := h6
  have hm := H.1
  have hne1 : m ≠ w.heap.size := by omega
  have hne3 : w.heap.size ≠ m := by omega
  obtain ⟨x6, f6⟩ := H.2 6 (by omega)
  rw [e6] at x6
  clear H e6
  go_enter Try.func37, Try.ntmps37
  go_wp2
  refine bodyPost_ret (v := .tuple #[.agg #[.int .i64 1, .int .i64 1, .int .u64 0, .int .u64 0], .bool true]) (by simp only [results, Try.results37]; go_simp) rfl ?_
  refine ⟨rfl, ?_, ?_⟩
  · (repeat (first | (with_reducible exact gr_refl _ _) | (with_reducible refine gr_drew ?_) | (with_reducible refine gr_alloc ?_ _) | (with_reducible refine gr_set ?_ _))); done
  · (repeat (first | (with_reducible exact unhide HH) | (with_reducible refine IsM.drew ?_) | (with_reducible refine IsM.alloc ?_ _) | (with_reducible refine IsM.set ?_ (by omega) _))); done

set_option maxHeartbeats 1000000 in
theorem out_nil (w : World) : Calls Try.prog 17 #[.pointer none] w
    fun en w' => en = .returned (.tuple #[.agg #[.int .i64 0, .int .i64 0, .int .i64 0], .bool false]) ∧ Below w.heap.size w w' := by
  go_enter Try.func17, Try.ntmps17
  go_wp2
  refine bodyPost_ret (v := .tuple #[.agg #[.int .i64 0, .int .i64 0, .int .i64 0], .bool false]) (by simp only [results, Try.results17]; go_simp) rfl ?_
  exact ⟨rfl, by repeat (first | exact Below.refl _ _ | assumption | refine Below.alloc ?_ (by first | (simp; done) | (simp; omega) | omega) _ | refine Below.setCell ?_ (by first | (simp; done) | (simp; omega) | omega) _ | apply Below.drew | refine Below.trans ?_ (Below.mono (by assumption) (by first | (simp; done) | (simp; omega) | omega)))⟩

set_option maxHeartbeats 1000000 in
theorem out_not (m : Nat) (c : Nat → Value) (p : Int) (w : World) (H : IsM w m c) (h6 : c 6 = .int .i64 p) (hp : p ≠ 4) : Calls Try.prog 17 #[.pointer (some ⟨m, 0, none⟩)] w
    fun en w' => en = .returned (.tuple #[.agg #[.int .i64 0, .int .i64 0, .int .i64 0], .bool false]) ∧ Below w.heap.size w w' := by
  have hm := H.1
  have hne1 : m ≠ w.heap.size := by omega
  have hne3 : w.heap.size ≠ m := by omega
  obtain ⟨x6, f6⟩ := H.2 6 (by omega)
  rw [h6] at x6
  clear H h6
  go_enter Try.func17, Try.ntmps17
  go_wp2
  refine bodyPost_ret (v := .tuple #[.agg #[.int .i64 0, .int .i64 0, .int .i64 0], .bool false]) (by simp only [results, Try.results17]; go_simp) rfl ?_
  exact ⟨rfl, by repeat (first | exact Below.refl _ _ | assumption | refine Below.alloc ?_ (by first | (simp; done) | (simp; omega) | omega) _ | refine Below.setCell ?_ (by first | (simp; done) | (simp; omega) | omega) _ | apply Below.drew | refine Below.trans ?_ (Below.mono (by assumption) (by first | (simp; done) | (simp; omega) | omega)))⟩

set_option maxHeartbeats 1000000 in
theorem out_over (m : Nat) (c : Nat → Value) (x y z : Int) (w : World) (H : IsM w m c) (h6 : c 6 = .int .i64 4) (hx : c 12 = .int .i64 x) (hy : c 13 = .int .i64 y) (hz : c 14 = .int .i64 z) : Calls Try.prog 17 #[.pointer (some ⟨m, 0, none⟩)] w
    fun en w' => en = .returned (.tuple #[.agg #[.int .i64 x, .int .i64 y, .int .i64 z], .bool true]) ∧ Below w.heap.size w w' := by
  have hm := H.1
  have hne1 : m ≠ w.heap.size := by omega
  have hne3 : w.heap.size ≠ m := by omega
  obtain ⟨x6, f6⟩ := H.2 6 (by omega)
  obtain ⟨x12, f12⟩ := H.2 12 (by omega)
  obtain ⟨x13, f13⟩ := H.2 13 (by omega)
  obtain ⟨x14, f14⟩ := H.2 14 (by omega)
  rw [h6] at x6
  rw [hx] at x12
  rw [hy] at x13
  rw [hz] at x14
  clear H h6 hx hy hz
  go_enter Try.func17, Try.ntmps17
  go_wp2
  refine bodyPost_ret (v := .tuple #[.agg #[.int .i64 x, .int .i64 y, .int .i64 z], .bool true]) (by simp only [results, Try.results17]; go_simp) rfl ?_
  exact ⟨rfl, by repeat (first | exact Below.refl _ _ | assumption | refine Below.alloc ?_ (by first | (simp; done) | (simp; omega) | omega) _ | refine Below.setCell ?_ (by first | (simp; done) | (simp; omega) | omega) _ | apply Below.drew | refine Below.trans ?_ (Below.mono (by assumption) (by first | (simp; done) | (simp; omega) | omega)))⟩

set_option maxHeartbeats 1000000 in
theorem copyM_nil (w : World) : Calls Try.prog 28 #[.pointer none] w fun en w' => en = .returned (.pointer none) ∧ Below w.heap.size w w' := by
  go_enter Try.func28, Try.ntmps28
  go_wp2
  go_ret
  exact ⟨rfl, by repeat (first | exact Below.refl _ _ | assumption | refine Below.alloc ?_ (by first | (simp; done) | (simp; omega) | omega) _ | refine Below.setCell ?_ (by first | (simp; done) | (simp; omega) | omega) _ | apply Below.drew | refine Below.trans ?_ (Below.mono (by assumption) (by first | (simp; done) | (simp; omega) | omega)))⟩

set_option maxHeartbeats 1000000 in
theorem next_nil (a : Int) (w : World) : Calls Try.prog 15 #[.pointer none, .int .u64 a] w
    fun en w' => en = .returned (.tuple #[.agg #[.int .i64 0, .int .i64 0, .int .u64 0, .int .u64 0], .bool false]) ∧ Below w.heap.size w w' := by
  go_enter Try.func15, Try.ntmps15
  go_wp2
  refine bodyPost_ret (v := .tuple #[.agg #[.int .i64 0, .int .i64 0, .int .u64 0, .int .u64 0], .bool false]) (by simp only [results, Try.results15]; go_simp) rfl ?_
  exact ⟨rfl, by repeat (first | exact Below.refl _ _ | assumption | refine Below.alloc ?_ (by first | (simp; done) | (simp; omega) | omega) _ | refine Below.setCell ?_ (by first | (simp; done) | (simp; omega) | omega) _ | apply Below.drew | refine Below.trans ?_ (Below.mono (by assumption) (by first | (simp; done) | (simp; omega) | omega)))⟩

theorem pick_any (b : Bool) (x y : Int) (w : World) : Calls Try.prog 62 #[.bool b, .int .i64 x, .int .i64 y] w fun en w' => en = .returned (.int .i64 (if b then x else y)) ∧ Below w.heap.size w w' := by
  cases b
  · go_enter Try.func62, Try.ntmps62
    go_wp2
    go_ret
    exact ⟨rfl, by repeat (first | exact Below.refl _ _ | assumption | refine Below.alloc ?_ (by first | (simp; done) | (simp; omega) | omega) _ | refine Below.setCell ?_ (by first | (simp; done) | (simp; omega) | omega) _ | apply Below.drew | refine Below.trans ?_ (Below.mono (by assumption) (by first | (simp; done) | (simp; omega) | omega)))⟩
  · go_enter Try.func62, Try.ntmps62
    go_wp2
    go_ret
    exact ⟨rfl, by repeat (first | exact Below.refl _ _ | assumption | refine Below.alloc ?_ (by first | (simp; done) | (simp; omega) | omega) _ | refine Below.setCell ?_ (by first | (simp; done) | (simp; omega) | omega) _ | apply Below.drew | refine Below.trans ?_ (Below.mono (by assumption) (by first | (simp; done) | (simp; omega) | omega)))⟩
end Go.Proofs.Ytnnllhlcpmmcaaa
