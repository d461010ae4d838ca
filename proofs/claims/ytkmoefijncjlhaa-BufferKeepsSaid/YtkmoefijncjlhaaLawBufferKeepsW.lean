/- The walk of BufferKeeps: it returns true. -/
import Derived.Test.YtkmoefijncjlhaaByI
import Derived.Deep.RegionHeld3
import Derived.Deep.DeepCutAuto
import Derived.BigQuiet
namespace Go.Proofs.Ytkmoefijncjlhaa
set_option linter.unusedVariables false
set_option linter.unusedSimpArgs false
open Go.RowKit

/-- Three cells of numbers. -/
def C3 (W : World) (p : Nat) (a b c : Int) : Prop := W.cell? ⟨p, 0, none⟩ = some (.int .i64 a) ∧ W.cell? ⟨p, 1, none⟩ = some (.int .i64 b) ∧ W.cell? ⟨p, 2, none⟩ = some (.int .i64 c)

/-- The plan's cells, the buffer's cells. -/
def Kp (W : World) (B : Nat) (t sp : Int) (v : Value) (s a l : Int) : Prop :=
  (W.cell? ⟨B, 0, none⟩ = some (.int .i64 t) ∧ W.cell? ⟨B, 1, none⟩ = some (.int .i64 sp) ∧ W.cell? ⟨B, 2, none⟩ = some v) ∧ C3 W (B + 1) s a l ∧
  (W.frozen? ⟨B + 1, 0, none⟩ = false ∧ W.frozen? ⟨B + 1, 1, none⟩ = false ∧ W.frozen? ⟨B + 1, 2, none⟩ = false)

theorem Kp.keep {W U : World} {B : Nat} {t sp : Int} {v : Value} {s a l : Int} (H : Kp W B t sp v s a l) (h1 : B + 1 < W.heap.size) (hb : Below W.heap.size W U) : Kp U B t sp v s a l := by
  have e : ∀ j, U.cell? ⟨B, j, none⟩ = W.cell? ⟨B, j, none⟩ := fun j => hb.cell (p := ⟨B, j, none⟩) (by show B < _; omega)
  have e1 : ∀ j, U.cell? ⟨B + 1, j, none⟩ = W.cell? ⟨B + 1, j, none⟩ := fun j => hb.cell (p := ⟨B + 1, j, none⟩) h1
  have e2 : ∀ j, U.frozen? ⟨B + 1, j, none⟩ = W.frozen? ⟨B + 1, j, none⟩ := fun j => hb.frozen (p := ⟨B + 1, j, none⟩) h1
  unfold Kp C3 at H ⊢
  simp only [e, e1, e2]
  exact H

theorem Kp.set {W : World} {B : Nat} {t sp : Int} {v : Value} {s a l : Int} (H : Kp W B t sp v s a l) (a2 l2 : Int) :
    Kp (((W.setCell ⟨B + 1, 0, none⟩ (.int .i64 s)).setCell ⟨B + 1, 1, none⟩ (.int .i64 a2)).setCell ⟨B + 1, 2, none⟩ (.int .i64 l2)) B t sp v s a2 l2 := by
  obtain ⟨⟨a0, a1, a2'⟩, ⟨b0, b1, b2⟩, c0, c1, c2⟩ := H
  refine ⟨⟨?_, ?_, ?_⟩, ⟨?_, ?_, ?_⟩, ?_, ?_, ?_⟩ <;> go_simp

theorem rgt_next {t sp : Int} {len : Nat} {S : Nat → ByteArray} {s a l n : Int} (h : rgt t sp len S s a l) (h1 : 1 ≤ n) (h2 : n ≤ l) : rgt t sp len S s (rsA (a + n) (l - n)) (l - n) := by
  obtain ⟨g1, g2, g3, g4, g5⟩ := h
  refine ⟨g1, g2, by omega, fun h0 => by unfold rsA; rw [if_pos h0], fun h0 => ?_⟩
  obtain ⟨w1, w2, w3, w4, w5, w6⟩ := g5 (by omega)
  have e : rsA (a + n) (l - n) = a + n := by unfold rsA; rw [if_neg h0]
  rw [e]
  exact ⟨w1, w2, by omega, by omega, by omega, by omega⟩

set_option maxRecDepth 100000 in
set_option maxHeartbeats 4000000 in
theorem keeps_no (t : Int) (_ : (Lit.int .i64 t).wf = true) (sp : Int) (_ : (Lit.int .i64 sp).wf = true) (A : Option Addr) (len cap : Nat) (s a l : Int) (ha : a ≤ 9223372036854775807) (B2 : Option Addr) (len2 cap2 : Nat) (S : Nat → ByteArray) (w : World) (H : ShOk w A len S) (hS : ∀ i, i < len → (S i).size ≤ maxLen) (hlm : len ≤ 9223372036854775807) (hl2 : len2 ≤ 9223372036854775807)
    (hno : fewB len S = false ∨ 40 < len2 ∨ rgtB t sp len S s a l = false) :
    Calls Try.prog 6 #[.agg #[.int .i64 t, .int .i64 sp, .slice A len cap], .agg #[.int .i64 s, .int .i64 a, .int .i64 l], .slice B2 len2 cap2] w fun e w' => e = .returned (.bool true) ∧ Below w.heap.size w w' := by
  have cf := hide (fun W (hW : Below w.heap.size w W) => few_any t sp A len cap S hlm W (H.keep hW) hS)
  cases ef : fewB len S with
  | false =>
    rw [ef] at cf
    clear ef H hS hno
    go_enter Try.func6, Try.ntmps6
    go_wp2_with fail
    refine (unhide cf _ (by repeat (first | exact Below.refl _ _ | assumption | refine Below.alloc ?_ (by first | (simp; done) | (simp; omega) | omega) _ | refine Below.setCell ?_ (by first | (simp; done) | (simp; omega) | omega) _ | apply Below.drew | refine Below.trans ?_ (Below.mono (by assumption) (by first | (simp; done) | (simp; omega) | omega))))).mono ?_
    rintro e w1 ⟨rfl, hw1⟩; obtain ⟨hcw1, hfw1⟩ := bcell hw1; (try (simp only [World.size_drew, World.cell?_drew, World.frozen?_drew] at hcw1 hfw1)); have hzw1 := hw1.size; (try (simp only [World.size_alloc, World.size_setCell, World.size_drew] at hzw1)); (try (have hzw1_w_0 : w.heap.size < w1.heap.size := by omega)); (try (have hzw1_w_1 : w.heap.size + 1 < w1.heap.size := by omega)); (try (have hzw1_w_2 : w.heap.size + 1 + 1 < w1.heap.size := by omega)); (try (have hzw1_w_3 : w.heap.size + 1 + 1 + 1 < w1.heap.size := by omega)); (try (have hyw1_w : w.heap.size ≤ w1.heap.size := by omega)); (try (have hyw1_wa : w.heap.size + 1 ≤ w1.heap.size := by omega))
    have B1 : Below w.heap.size w w1 := by repeat (first | exact Below.refl _ _ | assumption | refine Below.alloc ?_ (by first | (simp; done) | (simp; omega) | omega) _ | refine Below.setCell ?_ (by first | (simp; done) | (simp; omega) | omega) _ | apply Below.drew | refine Below.trans ?_ (Below.mono (by assumption) (by first | (simp; done) | (simp; omega) | omega)))
    go_wp2_with fail
    refine (works15_any _).mono ?_
    rintro e w2 ⟨rfl, hw2⟩; obtain ⟨hcw2, hfw2⟩ := bcell hw2; (try (simp only [World.size_drew, World.cell?_drew, World.frozen?_drew] at hcw2 hfw2)); have hzw2 := hw2.size; (try (simp only [World.size_alloc, World.size_setCell, World.size_drew] at hzw2)); (try (have hzw2_w_0 : w.heap.size < w2.heap.size := by omega)); (try (have hzw2_w_1 : w.heap.size + 1 < w2.heap.size := by omega)); (try (have hzw2_w_2 : w.heap.size + 1 + 1 < w2.heap.size := by omega)); (try (have hzw2_w_3 : w.heap.size + 1 + 1 + 1 < w2.heap.size := by omega)); (try (have hyw2_w : w.heap.size ≤ w2.heap.size := by omega)); (try (have hyw2_wa : w.heap.size + 1 ≤ w2.heap.size := by omega)); (try (have hzw2_w1_0 : w1.heap.size < w2.heap.size := by omega)); (try (have hzw2_w1_1 : w1.heap.size + 1 < w2.heap.size := by omega)); (try (have hzw2_w1_2 : w1.heap.size + 1 + 1 < w2.heap.size := by omega)); (try (have hzw2_w1_3 : w1.heap.size + 1 + 1 + 1 < w2.heap.size := by omega)); (try (have hyw2_w1 : w1.heap.size ≤ w2.heap.size := by omega)); (try (have hyw2_w1a : w1.heap.size + 1 ≤ w2.heap.size := by omega))
    have B2 : Below w.heap.size w w2 := B1.trans (hw2.mono B1.size)
    go_wp2
    go_ret
    exact ⟨rfl, B2⟩
  | true =>
    have hf := fewB_iff.1 ef
    rw [ef] at cf
    by_cases h40 : 40 < len2
    · clear ef H hS hno
      go_enter Try.func6, Try.ntmps6
      go_wp2_with fail
      refine (unhide cf _ (by repeat (first | exact Below.refl _ _ | assumption | refine Below.alloc ?_ (by first | (simp; done) | (simp; omega) | omega) _ | refine Below.setCell ?_ (by first | (simp; done) | (simp; omega) | omega) _ | apply Below.drew | refine Below.trans ?_ (Below.mono (by assumption) (by first | (simp; done) | (simp; omega) | omega))))).mono ?_
      rintro e w1 ⟨rfl, hw1⟩; obtain ⟨hcw1, hfw1⟩ := bcell hw1; (try (simp only [World.size_drew, World.cell?_drew, World.frozen?_drew] at hcw1 hfw1)); have hzw1 := hw1.size; (try (simp only [World.size_alloc, World.size_setCell, World.size_drew] at hzw1)); (try (have hzw1_w_0 : w.heap.size < w1.heap.size := by omega)); (try (have hzw1_w_1 : w.heap.size + 1 < w1.heap.size := by omega)); (try (have hzw1_w_2 : w.heap.size + 1 + 1 < w1.heap.size := by omega)); (try (have hzw1_w_3 : w.heap.size + 1 + 1 + 1 < w1.heap.size := by omega)); (try (have hyw1_w : w.heap.size ≤ w1.heap.size := by omega)); (try (have hyw1_wa : w.heap.size + 1 ≤ w1.heap.size := by omega))
      have B1 : Below w.heap.size w w1 := by repeat (first | exact Below.refl _ _ | assumption | refine Below.alloc ?_ (by first | (simp; done) | (simp; omega) | omega) _ | refine Below.setCell ?_ (by first | (simp; done) | (simp; omega) | omega) _ | apply Below.drew | refine Below.trans ?_ (Below.mono (by assumption) (by first | (simp; done) | (simp; omega) | omega)))
      go_wp2_with fail
      refine (works15_any _).mono ?_
      rintro e w2 ⟨rfl, hw2⟩; obtain ⟨hcw2, hfw2⟩ := bcell hw2; (try (simp only [World.size_drew, World.cell?_drew, World.frozen?_drew] at hcw2 hfw2)); have hzw2 := hw2.size; (try (simp only [World.size_alloc, World.size_setCell, World.size_drew] at hzw2)); (try (have hzw2_w_0 : w.heap.size < w2.heap.size := by omega)); (try (have hzw2_w_1 : w.heap.size + 1 < w2.heap.size := by omega)); (try (have hzw2_w_2 : w.heap.size + 1 + 1 < w2.heap.size := by omega)); (try (have hzw2_w_3 : w.heap.size + 1 + 1 + 1 < w2.heap.size := by omega)); (try (have hyw2_w : w.heap.size ≤ w2.heap.size := by omega)); (try (have hyw2_wa : w.heap.size + 1 ≤ w2.heap.size := by omega)); (try (have hzw2_w1_0 : w1.heap.size < w2.heap.size := by omega)); (try (have hzw2_w1_1 : w1.heap.size + 1 < w2.heap.size := by omega)); (try (have hzw2_w1_2 : w1.heap.size + 1 + 1 < w2.heap.size := by omega)); (try (have hzw2_w1_3 : w1.heap.size + 1 + 1 + 1 < w2.heap.size := by omega)); (try (have hyw2_w1 : w1.heap.size ≤ w2.heap.size := by omega)); (try (have hyw2_w1a : w1.heap.size + 1 ≤ w2.heap.size := by omega))
      have B2 : Below w.heap.size w w2 := B1.trans (hw2.mono B1.size)
      go_wp2
      go_ret
      exact ⟨rfl, B2⟩
    · have h100 : ∀ i, i < len → (S i).size ≤ 100 := fun i hi => by have := hf.2 i hi; omega
      have hr : rgtB t sp len S s a l = false := by
        rcases hno with h | h | h
        · rw [ef] at h; cases h
        · omega
        · exact h
      have C3' := hide (fun W (hW : Below w.heap.size w W) => byChk_any t sp A len cap S (by have := hf.1; omega) h100 s a l ha W (H.keep hW))
      rw [hr, if_neg (by simp)] at C3'
      have h41 : len2 ≤ 40 := by omega
      clear ef H hS hno hf h100 hr
      go_enter Try.func6, Try.ntmps6
      go_wp2_with fail
      refine (unhide cf _ (by repeat (first | exact Below.refl _ _ | assumption | refine Below.alloc ?_ (by first | (simp; done) | (simp; omega) | omega) _ | refine Below.setCell ?_ (by first | (simp; done) | (simp; omega) | omega) _ | apply Below.drew | refine Below.trans ?_ (Below.mono (by assumption) (by first | (simp; done) | (simp; omega) | omega))))).mono ?_
      rintro e w1 ⟨rfl, hw1⟩; obtain ⟨hcw1, hfw1⟩ := bcell hw1; (try (simp only [World.size_drew, World.cell?_drew, World.frozen?_drew] at hcw1 hfw1)); have hzw1 := hw1.size; (try (simp only [World.size_alloc, World.size_setCell, World.size_drew] at hzw1)); (try (have hzw1_w_0 : w.heap.size < w1.heap.size := by omega)); (try (have hzw1_w_1 : w.heap.size + 1 < w1.heap.size := by omega)); (try (have hzw1_w_2 : w.heap.size + 1 + 1 < w1.heap.size := by omega)); (try (have hzw1_w_3 : w.heap.size + 1 + 1 + 1 < w1.heap.size := by omega)); (try (have hyw1_w : w.heap.size ≤ w1.heap.size := by omega)); (try (have hyw1_wa : w.heap.size + 1 ≤ w1.heap.size := by omega))
      have B1 : Below w.heap.size w w1 := by repeat (first | exact Below.refl _ _ | assumption | refine Below.alloc ?_ (by first | (simp; done) | (simp; omega) | omega) _ | refine Below.setCell ?_ (by first | (simp; done) | (simp; omega) | omega) _ | apply Below.drew | refine Below.trans ?_ (Below.mono (by assumption) (by first | (simp; done) | (simp; omega) | omega)))
      go_wp2_with fail
      refine (unhide C3' _ B1).mono ?_
      rintro e w2 ⟨rfl, hw2⟩; obtain ⟨hcw2, hfw2⟩ := bcell hw2; (try (simp only [World.size_drew, World.cell?_drew, World.frozen?_drew] at hcw2 hfw2)); have hzw2 := hw2.size; (try (simp only [World.size_alloc, World.size_setCell, World.size_drew] at hzw2)); (try (have hzw2_w_0 : w.heap.size < w2.heap.size := by omega)); (try (have hzw2_w_1 : w.heap.size + 1 < w2.heap.size := by omega)); (try (have hzw2_w_2 : w.heap.size + 1 + 1 < w2.heap.size := by omega)); (try (have hzw2_w_3 : w.heap.size + 1 + 1 + 1 < w2.heap.size := by omega)); (try (have hyw2_w : w.heap.size ≤ w2.heap.size := by omega)); (try (have hyw2_wa : w.heap.size + 1 ≤ w2.heap.size := by omega)); (try (have hzw2_w1_0 : w1.heap.size < w2.heap.size := by omega)); (try (have hzw2_w1_1 : w1.heap.size + 1 < w2.heap.size := by omega)); (try (have hzw2_w1_2 : w1.heap.size + 1 + 1 < w2.heap.size := by omega)); (try (have hzw2_w1_3 : w1.heap.size + 1 + 1 + 1 < w2.heap.size := by omega)); (try (have hyw2_w1 : w1.heap.size ≤ w2.heap.size := by omega)); (try (have hyw2_w1a : w1.heap.size + 1 ≤ w2.heap.size := by omega))
      have B2 : Below w.heap.size w w2 := B1.trans (hw2.mono B1.size)
      go_wp2_with (go_at_call 12; refine (num15_any _ _).mono ?_; rintro e w' ⟨rfl, rfl⟩)
      refine (works15_any _).mono ?_
      rintro e w3 ⟨rfl, hw3⟩; obtain ⟨hcw3, hfw3⟩ := bcell hw3; (try (simp only [World.size_drew, World.cell?_drew, World.frozen?_drew] at hcw3 hfw3)); have hzw3 := hw3.size; (try (simp only [World.size_alloc, World.size_setCell, World.size_drew] at hzw3)); (try (have hzw3_w_0 : w.heap.size < w3.heap.size := by omega)); (try (have hzw3_w_1 : w.heap.size + 1 < w3.heap.size := by omega)); (try (have hzw3_w_2 : w.heap.size + 1 + 1 < w3.heap.size := by omega)); (try (have hzw3_w_3 : w.heap.size + 1 + 1 + 1 < w3.heap.size := by omega)); (try (have hyw3_w : w.heap.size ≤ w3.heap.size := by omega)); (try (have hyw3_wa : w.heap.size + 1 ≤ w3.heap.size := by omega)); (try (have hzw3_w1_0 : w1.heap.size < w3.heap.size := by omega)); (try (have hzw3_w1_1 : w1.heap.size + 1 < w3.heap.size := by omega)); (try (have hzw3_w1_2 : w1.heap.size + 1 + 1 < w3.heap.size := by omega)); (try (have hzw3_w1_3 : w1.heap.size + 1 + 1 + 1 < w3.heap.size := by omega)); (try (have hyw3_w1 : w1.heap.size ≤ w3.heap.size := by omega)); (try (have hyw3_w1a : w1.heap.size + 1 ≤ w3.heap.size := by omega)); (try (have hzw3_w2_0 : w2.heap.size < w3.heap.size := by omega)); (try (have hzw3_w2_1 : w2.heap.size + 1 < w3.heap.size := by omega)); (try (have hzw3_w2_2 : w2.heap.size + 1 + 1 < w3.heap.size := by omega)); (try (have hzw3_w2_3 : w2.heap.size + 1 + 1 + 1 < w3.heap.size := by omega)); (try (have hyw3_w2 : w2.heap.size ≤ w3.heap.size := by omega)); (try (have hyw3_w2a : w2.heap.size + 1 ≤ w3.heap.size := by omega))
      have B3 : Below w.heap.size w w3 := B2.trans (hw3.mono B2.size)
      go_wp2
      go_ret
      exact ⟨rfl, B3⟩

set_option maxRecDepth 100000 in
set_option maxHeartbeats 8000000 in
theorem keeps_ok (t : Int) (_ : (Lit.int .i64 t).wf = true) (sp : Int) (_ : (Lit.int .i64 sp).wf = true) (A : Option Addr) (len cap : Nat) (s a l : Int) (ha : a ≤ 9223372036854775807) (Bl : Option Addr) (len2 cap2 : Nat) (S : Nat → ByteArray) (w : World) (H : ShOk w A len S) (hS : ∀ i, i < len → (S i).size ≤ maxLen)
    (hfew : fewB len S = true) (h40 : len2 ≤ 40) (hrg : rgt t sp len S s a l) (z : Nat → Int) (HZ : Hid (0 < len2 → ∃ g o, Bl = some ⟨g, o, none⟩ ∧ g < w.heap.size ∧ ∀ i, i < len2 → w.cell? ⟨g, o + i, none⟩ = some (.int .i64 (z i)) ∧ z i ≤ 9223372036854775807)) :
    Calls Try.prog 6 #[.agg #[.int .i64 t, .int .i64 sp, .slice A len cap], .agg #[.int .i64 s, .int .i64 a, .int .i64 l], .slice Bl len2 cap2] w fun e w' => e = .returned (.bool true) ∧ Below w.heap.size w w' := by
  have hf := fewB_iff.1 hfew
  have hl1000 : len ≤ 1000 := by have := hf.1; omega
  have h100 : ∀ i, i < len → (S i).size ≤ 100 := fun i hi => by have := hf.2 i hi; omega
  have cf := hide (fun W (hW : Below w.heap.size w W) => few_any t sp A len cap S (by omega) W (H.keep hW) hS)
  rw [hfew] at cf
  have CK : Hid (∀ W, Below w.heap.size w W → ∀ a' l' : Int, a' ≤ 9223372036854775807 → rgt t sp len S s a' l' → Calls Try.prog 13 #[.agg #[.int .i64 t, .int .i64 sp, .slice A len cap], .agg #[.int .i64 s, .int .i64 a', .int .i64 l']] W fun e w' => e = .returned (.int .i64 0) ∧ Below W.heap.size W w') := hide (fun W hW a' l' ha' hr => by
    have h := byChk_any t sp A len cap S hl1000 h100 s a' l' ha' W (H.keep hW)
    rw [if_pos (rgtB_iff.2 hr)] at h
    exact h)
  have CB := hide (fun W (hW : Below w.heap.size w W) (a' l' n : Int) (ha' : a' ≤ 9223372036854775807) (hb : n < 1) => take_bad t sp A len cap S hl1000 h100 s a' l' n ha' (by rw [show decide (1 ≤ n) = false by simp; omega, Bool.and_false]) W (H.keep hW))
  have CL := hide (fun W (hW : Below w.heap.size w W) (a' l' n : Int) (ha' : a' ≤ 9223372036854775807) (hr : rgt t sp len S s a' l') (h1 : 1 ≤ n) (h2 : l' < n) => take_less t sp A len cap S hl1000 h100 s a' l' n ha' (rgtB_iff.2 hr) h1 h2 W (H.keep hW))
  have CO := hide (fun W (hW : Below w.heap.size w W) (a' l' n : Int) (ha' : a' ≤ 9223372036854775807) (hr : rgt t sp len S s a' l') (h1 : 1 ≤ n) (h2 : n ≤ l') => take_ok t sp A len cap S hl1000 h100 s a' l' n ha' (rgtB_iff.2 hr) h1 h2 W (H.keep hW))
  have HR0 := hide hrg
  have hle : ∀ a' l', rgt t sp len S s a' l' → a' ≤ 10000 ∧ 0 ≤ a' ∧ 0 ≤ l' ∧ l' ≤ 4096 := fun a' l' h => by
    obtain ⟨g1, g2, g3, g4, g5⟩ := h
    by_cases h0 : l' = 0
    · have := g4 h0; omega
    · obtain ⟨w1, w2, w3, w4, w5, w6⟩ := g5 h0
      have := bas_le g1.1 g1.2.1 g2
      have := g1.2.1
      omega
  have HLx := hide hle
  clear H hS hfew hf hl1000 h100 hrg hle
  go_enter Try.func6, Try.ntmps6
  go_wp2_with fail
  refine (unhide cf _ (by repeat (first | exact Below.refl _ _ | assumption | refine Below.alloc ?_ (by first | (simp; done) | (simp; omega) | omega) _ | refine Below.setCell ?_ (by first | (simp; done) | (simp; omega) | omega) _ | apply Below.drew | refine Below.trans ?_ (Below.mono (by assumption) (by first | (simp; done) | (simp; omega) | omega))))).mono ?_
  rintro e w1 ⟨rfl, hw1⟩; obtain ⟨hcw1, hfw1⟩ := bcell hw1; (try (simp only [World.size_drew, World.cell?_drew, World.frozen?_drew] at hcw1 hfw1)); have hzw1 := hw1.size; (try (simp only [World.size_alloc, World.size_setCell, World.size_drew] at hzw1)); (try (have hzw1_w_0 : w.heap.size < w1.heap.size := by omega)); (try (have hzw1_w_1 : w.heap.size + 1 < w1.heap.size := by omega)); (try (have hzw1_w_2 : w.heap.size + 1 + 1 < w1.heap.size := by omega)); (try (have hzw1_w_3 : w.heap.size + 1 + 1 + 1 < w1.heap.size := by omega)); (try (have hyw1_w : w.heap.size ≤ w1.heap.size := by omega)); (try (have hyw1_wa : w.heap.size + 1 ≤ w1.heap.size := by omega))
  have B1 : Below w.heap.size w w1 := by repeat (first | exact Below.refl _ _ | assumption | refine Below.alloc ?_ (by first | (simp; done) | (simp; omega) | omega) _ | refine Below.setCell ?_ (by first | (simp; done) | (simp; omega) | omega) _ | apply Below.drew | refine Below.trans ?_ (Below.mono (by assumption) (by first | (simp; done) | (simp; omega) | omega)))
  go_wp2_with fail
  refine (unhide CK _ B1 a l ha (unhide HR0)).mono ?_
  rintro e w2 ⟨rfl, hw2⟩; obtain ⟨hcw2, hfw2⟩ := bcell hw2; (try (simp only [World.size_drew, World.cell?_drew, World.frozen?_drew] at hcw2 hfw2)); have hzw2 := hw2.size; (try (simp only [World.size_alloc, World.size_setCell, World.size_drew] at hzw2)); (try (have hzw2_w_0 : w.heap.size < w2.heap.size := by omega)); (try (have hzw2_w_1 : w.heap.size + 1 < w2.heap.size := by omega)); (try (have hzw2_w_2 : w.heap.size + 1 + 1 < w2.heap.size := by omega)); (try (have hzw2_w_3 : w.heap.size + 1 + 1 + 1 < w2.heap.size := by omega)); (try (have hyw2_w : w.heap.size ≤ w2.heap.size := by omega)); (try (have hyw2_wa : w.heap.size + 1 ≤ w2.heap.size := by omega)); (try (have hzw2_w1_0 : w1.heap.size < w2.heap.size := by omega)); (try (have hzw2_w1_1 : w1.heap.size + 1 < w2.heap.size := by omega)); (try (have hzw2_w1_2 : w1.heap.size + 1 + 1 < w2.heap.size := by omega)); (try (have hzw2_w1_3 : w1.heap.size + 1 + 1 + 1 < w2.heap.size := by omega)); (try (have hyw2_w1 : w1.heap.size ≤ w2.heap.size := by omega)); (try (have hyw2_w1a : w1.heap.size + 1 ≤ w2.heap.size := by omega))
  have B2 : Below w.heap.size w w2 := B1.trans (hw2.mono B1.size)
  go_wp2_with (go_at_call 12; refine (num15_any _ _).mono ?_; rintro e w' ⟨rfl, rfl⟩)
  go_upto_region 3 with fail
  have HK2 : Hid (Kp w2 w.heap.size t sp (.slice A len cap) s a l) := hide ⟨⟨by go_simp, by go_simp, by go_simp⟩, ⟨by go_simp, by go_simp, by go_simp⟩, by go_simp, by go_simp, by go_simp⟩
  have y1 : ∀ v : Later w2, v.val.cell? ⟨w.heap.size + 1, 1, none⟩ = some (.int .i64 a) := Later.cell (by show w.heap.size + 1 < _; omega) (by go_simp)
  have y2 : ∀ v : Later w2, v.val.cell? ⟨w.heap.size + 1, 2, none⟩ = some (.int .i64 l) := Later.cell (by show w.heap.size + 1 < _; omega) (by go_simp)
  have hq1 : w.heap.size + 1 < w2.heap.size := by omega
  refine wp_region_later w2 (by kernel_rfl) (by kernel_rfl) (by repeat (first | exact Below.refl _ _ | assumption | refine Below.alloc ?_ (by first | (simp; done) | (simp; omega) | omega) _ | refine Below.setCell ?_ (by first | (simp; done) | (simp; omega) | omega) _ | apply Below.drew | refine Below.trans ?_ (Below.mono (by assumption) (by first | (simp; done) | (simp; omega) | omega)))) ?_; (repeat (first | go_big_quiet_skip | (go_big_quiet_want; (first | ((fail); go_big_quiet_on; simp only [Act.put, List.setIfInBounds_toArray, List.set_cons_zero, List.set_cons_succ]) | (go_big_quiet_op; (first | go_big_quiet_on | go_big_quiet_call ((fail)))))))); refine wpQuiet_nil ?_
  intro w3 hw3
  have HK0 := hide ((unhide HK2).keep hq1 hw3)
  have B3 : Hid (Below w.heap.size w w3 ∧ w.heap.size + 1 < w3.heap.size) := hide ⟨B2.trans (hw3.mono B2.size), Nat.lt_of_lt_of_le hq1 hw3.size⟩
  clear HK2 y1 y2 hcw1 hfw1 hcw2 hfw2
  go_wp2
  go_loopw [7, 8, 9] (fun nx lf i wr => ∃ (k : Nat) (a' l' zz : Int), k ≤ len2 ∧ i = .int .i64 k ∧ nx = .int .i64 zz ∧ lf = .int .i64 l' ∧ Hid (rgt t sp len S s a' l') ∧ Hid (l' ≠ 0 → zz = a') ∧ Hid (Kp wr w.heap.size t sp (.slice A len cap) s a' l') ∧ Below w.heap.size w wr ∧ w.heap.size + 1 < wr.heap.size) (fun _ _ i _ => len2 - (intOf i).toNat)
  case atStart => exact ⟨0, a, l, a, by omega, rfl, rfl, rfl, HR0, hide (fun _ => rfl), HK0, (unhide B3).1, (unhide B3).2⟩
  case round =>
    clear HK0 B3
    obtain ⟨k, a', l', zz, hk, rfl, rfl, rfl, HR, HX, HKP, hB, hs1⟩ := hrel
    have hsz := hB.size
    have hs0 : w.heap.size < wr.heap.size := by omega
    by_cases hlt : k < len2
    · obtain ⟨g, o, rfl, hg, hc⟩ := unhide HZ (by omega)
      have hgr : g < wr.heap.size := Nat.lt_of_lt_of_le hg hsz
      have hcell : wr.cell? ⟨g, o + k, none⟩ = some (.int .i64 (z k)) := (hB.cell (p := ⟨g, o + k, none⟩) hg).trans (hc k hlt).1
      have hzk := (hc k hlt).2
      obtain ⟨⟨p0, p1, p2⟩, ⟨x0, x1, x2⟩, f0, f1, f2⟩ := unhide HKP
      have bk0 : (0 : Int) ≤ (k : Int) := by omega
      have bk1 : (k : Int) < (len2 : Int) := by omega
      obtain ⟨l1, l2, l3, l4⟩ := unhide HLx _ _ (unhide HR)
      have HW := hide (fun W (hW : Below wr.heap.size wr W) => hB.trans (hW.mono hsz))
      clear hc
      by_cases h1 : z k < 1
      · have C := hide (fun W (hW : Below wr.heap.size wr W) => unhide CB W (unhide HW W hW) a' l' (z k) (by omega) h1)
        go_upto_region 7 with fail
        go_cut [10, 11, 12] (fun s10 s11 s12 wx => ∃ p, s10 = .pointer (some ⟨p, 0, none⟩) ∧ s11 = .int .i64 (0) ∧ s12 = .int .i64 (2) ∧ wr.heap.size ≤ p ∧ p < wx.heap.size ∧ Below wr.heap.size wr wx ∧ Hid (C3 wx p (0) (0) (0)))
        case first =>
          go_region_held3 (fun W => Below wr.heap.size wr W ∧ W.cell? ⟨w.heap.size, 0, none⟩ = some (.int .i64 t) ∧ W.cell? ⟨w.heap.size, 1, none⟩ = some (.int .i64 sp) ∧ W.cell? ⟨w.heap.size, 2, none⟩ = some (.slice A len cap) ∧ W.cell? ⟨w.heap.size + 1, 0, none⟩ = some (.int .i64 s) ∧ W.cell? ⟨w.heap.size + 1, 1, none⟩ = some (.int .i64 a') ∧ W.cell? ⟨w.heap.size + 1, 2, none⟩ = some (.int .i64 l') ∧ W.cell? ⟨g, o + k, none⟩ = some (.int .i64 (z k))) (((refine and_dep ?_ (fun hkq => ⟨(hkq.cell (p := ⟨w.heap.size, 0, none⟩) hs0).trans p0, (hkq.cell (p := ⟨w.heap.size, 1, none⟩) hs0).trans p1, (hkq.cell (p := ⟨w.heap.size, 2, none⟩) hs0).trans p2, (hkq.cell (p := ⟨w.heap.size + 1, 0, none⟩) hs1).trans x0, (hkq.cell (p := ⟨w.heap.size + 1, 1, none⟩) hs1).trans x1, (hkq.cell (p := ⟨w.heap.size + 1, 2, none⟩) hs1).trans x2, (hkq.cell (p := ⟨g, o + k, none⟩) hgr).trans hcell⟩)); go_split_ands; repeat (first | exact Below.refl _ _ | assumption | refine Below.alloc ?_ (by first | (simp; done) | (simp; omega) | omega) _ | refine Below.setCell ?_ (by first | (simp; done) | (simp; omega) | omega) _ | apply Below.drew | refine Below.trans ?_ (Below.mono (by assumption) (by first | (simp; done) | (simp; omega) | omega)))))
            ((go_at_call 15; refine (unhide C _ (by go_split_ands; assumption)).mono ?_; rintro e w3 ⟨rfl, hw3⟩; obtain ⟨hcw3, hfw3⟩ := bcell hw3; (try (simp only [World.size_drew, World.cell?_drew, World.frozen?_drew] at hcw3 hfw3)); have hzw3 := hw3.size; (try (simp only [World.size_alloc, World.size_setCell, World.size_drew] at hzw3)); (try (have hzw3_w_0 : w.heap.size < w3.heap.size := by omega)); (try (have hzw3_w_1 : w.heap.size + 1 < w3.heap.size := by omega)); (try (have hzw3_w_2 : w.heap.size + 1 + 1 < w3.heap.size := by omega)); (try (have hzw3_w_3 : w.heap.size + 1 + 1 + 1 < w3.heap.size := by omega)); (try (have hyw3_w : w.heap.size ≤ w3.heap.size := by omega)); (try (have hyw3_wa : w.heap.size + 1 ≤ w3.heap.size := by omega)); (try (have hzw3_wr_0 : wr.heap.size < w3.heap.size := by omega)); (try (have hzw3_wr_1 : wr.heap.size + 1 < w3.heap.size := by omega)); (try (have hzw3_wr_2 : wr.heap.size + 1 + 1 < w3.heap.size := by omega)); (try (have hzw3_wr_3 : wr.heap.size + 1 + 1 + 1 < w3.heap.size := by omega)); (try (have hyw3_wr : wr.heap.size ≤ w3.heap.size := by omega)); (try (have hyw3_wra : wr.heap.size + 1 ≤ w3.heap.size := by omega))))
          all_goals go_wp2_with fail
          all_goals go_meet
          all_goals exact ⟨_, rfl, rfl, rfl, by first | (simp; done) | (simp; omega) | omega, by first | (simp; done) | (simp; omega) | omega, by repeat (first | exact Below.refl _ _ | assumption | refine Below.alloc ?_ (by first | (simp; done) | (simp; omega) | omega) _ | refine Below.setCell ?_ (by first | (simp; done) | (simp; omega) | omega) _ | apply Below.drew | refine Below.trans ?_ (Below.mono (by assumption) (by first | (simp; done) | (simp; omega) | omega))), hide ⟨by go_simp, by go_simp, by go_simp⟩⟩
        case rest =>
          obtain ⟨p, rfl, rfl, rfl, hp1, hp2, hBx, HP⟩ := hcut
          obtain ⟨wx, hwx⟩ : ∃ wx, wx = wc := ⟨_, rfl⟩
          subst hwx
          have hB3 : Below w.heap.size w wx := hB.trans (hBx.mono hsz)
          have HKx := hide ((unhide HKP).keep hs1 hBx)
          have hcellx : wx.cell? ⟨g, o + k, none⟩ = some (.int .i64 (z k)) := (hBx.cell (p := ⟨g, o + k, none⟩) hgr).trans hcell
          have hs1x : w.heap.size + 1 < wx.heap.size := Nat.lt_of_lt_of_le hs1 hBx.size
          have hgx : g < wx.heap.size := Nat.lt_of_lt_of_le hgr hBx.size
          clear p0 p1 p2 x0 x1 x2 f0 f1 f2 hB hcell hBx
          go_wp2_with (go_at_call 12; refine (num15_any _ _).mono ?_; rintro e w' ⟨rfl, rfl⟩)
          go_roundw
          case measure => simp [intOf]; omega
          case rel => exact ⟨k + 1, a', l', zz, by omega, by go_num, rfl, rfl, HR, HX, HKx, hB3, hs1x⟩
      by_cases h2 : l' < z k
      · have C := hide (fun W (hW : Below wr.heap.size wr W) => unhide CL W (unhide HW W hW) a' l' (z k) (by omega) (unhide HR) (by omega) h2)
        go_upto_region 7 with fail
        go_cut [10, 11, 12] (fun s10 s11 s12 wx => ∃ p, s10 = .pointer (some ⟨p, 0, none⟩) ∧ s11 = .int .i64 (0) ∧ s12 = .int .i64 (4) ∧ wr.heap.size ≤ p ∧ p < wx.heap.size ∧ Below wr.heap.size wr wx ∧ Hid (C3 wx p (0) (0) (0)))
        case first =>
          go_region_held3 (fun W => Below wr.heap.size wr W ∧ W.cell? ⟨w.heap.size, 0, none⟩ = some (.int .i64 t) ∧ W.cell? ⟨w.heap.size, 1, none⟩ = some (.int .i64 sp) ∧ W.cell? ⟨w.heap.size, 2, none⟩ = some (.slice A len cap) ∧ W.cell? ⟨w.heap.size + 1, 0, none⟩ = some (.int .i64 s) ∧ W.cell? ⟨w.heap.size + 1, 1, none⟩ = some (.int .i64 a') ∧ W.cell? ⟨w.heap.size + 1, 2, none⟩ = some (.int .i64 l') ∧ W.cell? ⟨g, o + k, none⟩ = some (.int .i64 (z k))) (((refine and_dep ?_ (fun hkq => ⟨(hkq.cell (p := ⟨w.heap.size, 0, none⟩) hs0).trans p0, (hkq.cell (p := ⟨w.heap.size, 1, none⟩) hs0).trans p1, (hkq.cell (p := ⟨w.heap.size, 2, none⟩) hs0).trans p2, (hkq.cell (p := ⟨w.heap.size + 1, 0, none⟩) hs1).trans x0, (hkq.cell (p := ⟨w.heap.size + 1, 1, none⟩) hs1).trans x1, (hkq.cell (p := ⟨w.heap.size + 1, 2, none⟩) hs1).trans x2, (hkq.cell (p := ⟨g, o + k, none⟩) hgr).trans hcell⟩)); go_split_ands; repeat (first | exact Below.refl _ _ | assumption | refine Below.alloc ?_ (by first | (simp; done) | (simp; omega) | omega) _ | refine Below.setCell ?_ (by first | (simp; done) | (simp; omega) | omega) _ | apply Below.drew | refine Below.trans ?_ (Below.mono (by assumption) (by first | (simp; done) | (simp; omega) | omega)))))
            ((go_at_call 15; refine (unhide C _ (by go_split_ands; assumption)).mono ?_; rintro e w3 ⟨rfl, hw3⟩; obtain ⟨hcw3, hfw3⟩ := bcell hw3; (try (simp only [World.size_drew, World.cell?_drew, World.frozen?_drew] at hcw3 hfw3)); have hzw3 := hw3.size; (try (simp only [World.size_alloc, World.size_setCell, World.size_drew] at hzw3)); (try (have hzw3_w_0 : w.heap.size < w3.heap.size := by omega)); (try (have hzw3_w_1 : w.heap.size + 1 < w3.heap.size := by omega)); (try (have hzw3_w_2 : w.heap.size + 1 + 1 < w3.heap.size := by omega)); (try (have hzw3_w_3 : w.heap.size + 1 + 1 + 1 < w3.heap.size := by omega)); (try (have hyw3_w : w.heap.size ≤ w3.heap.size := by omega)); (try (have hyw3_wa : w.heap.size + 1 ≤ w3.heap.size := by omega)); (try (have hzw3_wr_0 : wr.heap.size < w3.heap.size := by omega)); (try (have hzw3_wr_1 : wr.heap.size + 1 < w3.heap.size := by omega)); (try (have hzw3_wr_2 : wr.heap.size + 1 + 1 < w3.heap.size := by omega)); (try (have hzw3_wr_3 : wr.heap.size + 1 + 1 + 1 < w3.heap.size := by omega)); (try (have hyw3_wr : wr.heap.size ≤ w3.heap.size := by omega)); (try (have hyw3_wra : wr.heap.size + 1 ≤ w3.heap.size := by omega))))
          all_goals go_wp2_with fail
          all_goals go_meet
          all_goals exact ⟨_, rfl, rfl, rfl, by first | (simp; done) | (simp; omega) | omega, by first | (simp; done) | (simp; omega) | omega, by repeat (first | exact Below.refl _ _ | assumption | refine Below.alloc ?_ (by first | (simp; done) | (simp; omega) | omega) _ | refine Below.setCell ?_ (by first | (simp; done) | (simp; omega) | omega) _ | apply Below.drew | refine Below.trans ?_ (Below.mono (by assumption) (by first | (simp; done) | (simp; omega) | omega))), hide ⟨by go_simp, by go_simp, by go_simp⟩⟩
        case rest =>
          obtain ⟨p, rfl, rfl, rfl, hp1, hp2, hBx, HP⟩ := hcut
          obtain ⟨wx, hwx⟩ : ∃ wx, wx = wc := ⟨_, rfl⟩
          subst hwx
          have hB3 : Below w.heap.size w wx := hB.trans (hBx.mono hsz)
          have HKx := hide ((unhide HKP).keep hs1 hBx)
          have hcellx : wx.cell? ⟨g, o + k, none⟩ = some (.int .i64 (z k)) := (hBx.cell (p := ⟨g, o + k, none⟩) hgr).trans hcell
          have hs1x : w.heap.size + 1 < wx.heap.size := Nat.lt_of_lt_of_le hs1 hBx.size
          have hgx : g < wx.heap.size := Nat.lt_of_lt_of_le hgr hBx.size
          clear p0 p1 p2 x0 x1 x2 f0 f1 f2 hB hcell hBx
          go_wp2_with (go_at_call 12; refine (num15_any _ _).mono ?_; rintro e w' ⟨rfl, rfl⟩)
          go_roundw
          case measure => simp [intOf]; omega
          case rel => exact ⟨k + 1, a', l', zz, by omega, by go_num, rfl, rfl, HR, HX, HKx, hB3, hs1x⟩
      · have h3 : 1 ≤ z k := by omega
        have h4 : z k ≤ l' := by omega
        have hzz := unhide HX (by omega)
        subst hzz
        have HR2 := hide (rgt_next (unhide HR) h3 h4)
        have C := hide (fun W (hW : Below wr.heap.size wr W) => unhide CO W (unhide HW W hW) zz l' (z k) (by omega) (unhide HR) h3 h4)
        have hX2 : Hid (l' - z k ≠ 0 → zz + z k = rsA (zz + z k) (l' - z k)) := hide (fun h0 => by unfold rsA; rw [if_neg h0])
        obtain ⟨m1, m2, m3, m4⟩ := unhide HLx _ _ (unhide HR2)
        go_upto_region 7 with fail
        go_cut [10, 11, 12] (fun s10 s11 s12 wx => ∃ p, s10 = .pointer (some ⟨p, 0, none⟩) ∧ s11 = .int .i64 (zz) ∧ s12 = .int .i64 (0) ∧ wr.heap.size ≤ p ∧ p < wx.heap.size ∧ Below wr.heap.size wr wx ∧ Hid (C3 wx p (s) (rsA (zz + z k) (l' - z k)) (l' - z k)))
        case first =>
          go_region_held3 (fun W => Below wr.heap.size wr W ∧ W.cell? ⟨w.heap.size, 0, none⟩ = some (.int .i64 t) ∧ W.cell? ⟨w.heap.size, 1, none⟩ = some (.int .i64 sp) ∧ W.cell? ⟨w.heap.size, 2, none⟩ = some (.slice A len cap) ∧ W.cell? ⟨w.heap.size + 1, 0, none⟩ = some (.int .i64 s) ∧ W.cell? ⟨w.heap.size + 1, 1, none⟩ = some (.int .i64 zz) ∧ W.cell? ⟨w.heap.size + 1, 2, none⟩ = some (.int .i64 l') ∧ W.cell? ⟨g, o + k, none⟩ = some (.int .i64 (z k))) (((refine and_dep ?_ (fun hkq => ⟨(hkq.cell (p := ⟨w.heap.size, 0, none⟩) hs0).trans p0, (hkq.cell (p := ⟨w.heap.size, 1, none⟩) hs0).trans p1, (hkq.cell (p := ⟨w.heap.size, 2, none⟩) hs0).trans p2, (hkq.cell (p := ⟨w.heap.size + 1, 0, none⟩) hs1).trans x0, (hkq.cell (p := ⟨w.heap.size + 1, 1, none⟩) hs1).trans x1, (hkq.cell (p := ⟨w.heap.size + 1, 2, none⟩) hs1).trans x2, (hkq.cell (p := ⟨g, o + k, none⟩) hgr).trans hcell⟩)); go_split_ands; repeat (first | exact Below.refl _ _ | assumption | refine Below.alloc ?_ (by first | (simp; done) | (simp; omega) | omega) _ | refine Below.setCell ?_ (by first | (simp; done) | (simp; omega) | omega) _ | apply Below.drew | refine Below.trans ?_ (Below.mono (by assumption) (by first | (simp; done) | (simp; omega) | omega)))))
            ((go_at_call 15; refine (unhide C _ (by go_split_ands; assumption)).mono ?_; rintro e w3 ⟨rfl, hw3⟩; obtain ⟨hcw3, hfw3⟩ := bcell hw3; (try (simp only [World.size_drew, World.cell?_drew, World.frozen?_drew] at hcw3 hfw3)); have hzw3 := hw3.size; (try (simp only [World.size_alloc, World.size_setCell, World.size_drew] at hzw3)); (try (have hzw3_w_0 : w.heap.size < w3.heap.size := by omega)); (try (have hzw3_w_1 : w.heap.size + 1 < w3.heap.size := by omega)); (try (have hzw3_w_2 : w.heap.size + 1 + 1 < w3.heap.size := by omega)); (try (have hzw3_w_3 : w.heap.size + 1 + 1 + 1 < w3.heap.size := by omega)); (try (have hyw3_w : w.heap.size ≤ w3.heap.size := by omega)); (try (have hyw3_wa : w.heap.size + 1 ≤ w3.heap.size := by omega)); (try (have hzw3_wr_0 : wr.heap.size < w3.heap.size := by omega)); (try (have hzw3_wr_1 : wr.heap.size + 1 < w3.heap.size := by omega)); (try (have hzw3_wr_2 : wr.heap.size + 1 + 1 < w3.heap.size := by omega)); (try (have hzw3_wr_3 : wr.heap.size + 1 + 1 + 1 < w3.heap.size := by omega)); (try (have hyw3_wr : wr.heap.size ≤ w3.heap.size := by omega)); (try (have hyw3_wra : wr.heap.size + 1 ≤ w3.heap.size := by omega))))
          all_goals go_wp2_with fail
          all_goals go_meet
          all_goals exact ⟨_, rfl, rfl, rfl, by first | (simp; done) | (simp; omega) | omega, by first | (simp; done) | (simp; omega) | omega, by repeat (first | exact Below.refl _ _ | assumption | refine Below.alloc ?_ (by first | (simp; done) | (simp; omega) | omega) _ | refine Below.setCell ?_ (by first | (simp; done) | (simp; omega) | omega) _ | apply Below.drew | refine Below.trans ?_ (Below.mono (by assumption) (by first | (simp; done) | (simp; omega) | omega))), hide ⟨by go_simp, by go_simp, by go_simp⟩⟩
        case rest =>
          obtain ⟨p, rfl, rfl, rfl, hp1, hp2, hBx, HP⟩ := hcut
          obtain ⟨wx, hwx⟩ : ∃ wx, wx = wc := ⟨_, rfl⟩
          subst hwx
          have hB3 : Below w.heap.size w wx := hB.trans (hBx.mono hsz)
          have HKx := hide ((unhide HKP).keep hs1 hBx)
          have hcellx : wx.cell? ⟨g, o + k, none⟩ = some (.int .i64 (z k)) := (hBx.cell (p := ⟨g, o + k, none⟩) hgr).trans hcell
          have hs1x : w.heap.size + 1 < wx.heap.size := Nat.lt_of_lt_of_le hs1 hBx.size
          have hgx : g < wx.heap.size := Nat.lt_of_lt_of_le hgr hBx.size
          clear p0 p1 p2 x0 x1 x2 f0 f1 f2 hB hcell hBx
          obtain ⟨⟨p0, p1, p2⟩, ⟨x0, x1, x2⟩, f0, f1, f2⟩ := unhide HKx
          obtain ⟨c0, c1, c2⟩ := unhide HP
          have CC := hide (fun (v : Later wx) => later_call (unhide CK v.val (hB3.trans (v.ok.mono hB3.size)) (rsA (zz + z k) (l' - z k)) (l' - z k) (by omega) (unhide HR2)))
          go_wp2_with (go_at_call 12; refine (num15_any _ _).mono ?_; rintro e w' ⟨rfl, rfl⟩)
          go_upto_region 9 with fail
          generalize rsA (zz + z k) (l' - z k) = Z at *
          have u0 : ∀ v : Later wx, v.val.cell? ⟨w.heap.size, 0, none⟩ = some (.int .i64 t) := Later.cell (by show w.heap.size < _; omega) p0
          have u1 : ∀ v : Later wx, v.val.cell? ⟨w.heap.size, 1, none⟩ = some (.int .i64 sp) := Later.cell (by show w.heap.size < _; omega) p1
          have u2 : ∀ v : Later wx, v.val.cell? ⟨w.heap.size, 2, none⟩ = some (.slice A len cap) := Later.cell (by show w.heap.size < _; omega) p2
          have u3 : ∀ v : Later wx, v.val.cell? ⟨w.heap.size + 1, 0, none⟩ = some (.int .i64 s) := Later.cell hs1x x0
          have u4 : ∀ v : Later wx, v.val.cell? ⟨p, 0, none⟩ = some (.int .i64 s) := Later.cell hp2 c0
          have u5 : ∀ v : Later wx, v.val.cell? ⟨p, 1, none⟩ = some (.int .i64 Z) := Later.cell hp2 c1
          have u6 : ∀ v : Later wx, v.val.cell? ⟨p, 2, none⟩ = some (.int .i64 (l' - z k)) := Later.cell hp2 c2
          have u7 : ∀ v : Later wx, v.val.cell? ⟨g, o + k, none⟩ = some (.int .i64 (z k)) := Later.cell hgx hcellx
          have e2 : IntKind.i64.wrap (l' - z k) = l' - z k := IntWalk.i64_in _ (by omega)
          refine wp_region_later wx (by kernel_rfl) (by kernel_rfl) (by repeat (first | exact Below.refl _ _ | assumption | refine Below.alloc ?_ (by first | (simp; done) | (simp; omega) | omega) _ | refine Below.setCell ?_ (by first | (simp; done) | (simp; omega) | omega) _ | apply Below.drew | refine Below.trans ?_ (Below.mono (by assumption) (by first | (simp; done) | (simp; omega) | omega)))) ?_; (repeat (first | go_big_quiet_skip | (go_big_quiet_want; (first | ((fail); go_big_quiet_on; simp only [Act.put, List.setIfInBounds_toArray, List.set_cons_zero, List.set_cons_succ]) | (go_big_quiet_op; (first | go_big_quiet_on | go_big_quiet_call ((first | (go_at_call 12; exact later_same (num15_any _ _)) | (go_at_call 13; exact unhide CC _))))))))); refine wpQuiet_nil ?_
          intro w4 hw4
          have HK4 := hide ((unhide HKx).keep hs1x hw4)
          have hB4 : Below w.heap.size w w4 := hB3.trans (hw4.mono hB3.size)
          have hs4 : w.heap.size + 1 < w4.heap.size := Nat.lt_of_lt_of_le hs1x hw4.size
          have hp4 : p < w4.heap.size := Nat.lt_of_lt_of_le hp2 hw4.size
          have hg4 : g < w4.heap.size := Nat.lt_of_lt_of_le hgx hw4.size
          have HP4 : Hid (C3 w4 p s Z (l' - z k)) := hide ⟨(hw4.cell (p := ⟨p, 0, none⟩) hp2).trans c0, (hw4.cell (p := ⟨p, 1, none⟩) hp2).trans c1, (hw4.cell (p := ⟨p, 2, none⟩) hp2).trans c2⟩
          have k4 : w4.cell? ⟨g, o + k, none⟩ = some (.int .i64 (z k)) := (hw4.cell (p := ⟨g, o + k, none⟩) hgx).trans hcellx
          clear u0 u1 u2 u3 u4 u5 u6 u7 p0 p1 p2 x0 x1 x2 f0 f1 f2 c0 c1 c2 HKx HP hB3 hcellx hw4 CC e2
          go_upto_region 11 with fail
          have u6 : ∀ v : Later w4, v.val.cell? ⟨p, 2, none⟩ = some (.int .i64 (l' - z k)) := Later.cell hp4 (unhide HP4).2.2
          have u7 : ∀ v : Later w4, v.val.cell? ⟨g, o + k, none⟩ = some (.int .i64 (z k)) := Later.cell hg4 k4
          have e1 : IntKind.i64.wrap (zz + z k) = zz + z k := IntWalk.i64_in _ (by omega)
          refine wp_region_later w4 (by kernel_rfl) (by kernel_rfl) (by repeat (first | exact Below.refl _ _ | assumption | refine Below.alloc ?_ (by first | (simp; done) | (simp; omega) | omega) _ | refine Below.setCell ?_ (by first | (simp; done) | (simp; omega) | omega) _ | apply Below.drew | refine Below.trans ?_ (Below.mono (by assumption) (by first | (simp; done) | (simp; omega) | omega)))) ?_; (repeat (first | go_big_quiet_skip | (go_big_quiet_want; (first | ((fail); go_big_quiet_on; simp only [Act.put, List.setIfInBounds_toArray, List.set_cons_zero, List.set_cons_succ]) | (go_big_quiet_op; (first | go_big_quiet_on | go_big_quiet_call ((fail)))))))); refine wpQuiet_nil ?_
          intro w5 hw5
          have HK5 := hide ((unhide HK4).keep hs4 hw5)
          have hB5 : Below w.heap.size w w5 := hB4.trans (hw5.mono hB4.size)
          have hs5 : w.heap.size + 1 < w5.heap.size := Nat.lt_of_lt_of_le hs4 hw5.size
          have c0 : w5.cell? ⟨p, 0, none⟩ = some (.int .i64 s) := (hw5.cell (p := ⟨p, 0, none⟩) hp4).trans (unhide HP4).1
          have c1 : w5.cell? ⟨p, 1, none⟩ = some (.int .i64 Z) := (hw5.cell (p := ⟨p, 1, none⟩) hp4).trans (unhide HP4).2.1
          have c2 : w5.cell? ⟨p, 2, none⟩ = some (.int .i64 (l' - z k)) := (hw5.cell (p := ⟨p, 2, none⟩) hp4).trans (unhide HP4).2.2
          clear u6 u7 e1 HK4 HP4 k4 hB4 hw5
          obtain ⟨_, ⟨x0, x1, x2⟩, f0, f1, f2⟩ := unhide HK5
          have HK6 := hide ((unhide HK5).set Z (l' - z k))
          have hle6 : w.heap.size ≤ w.heap.size + 1 := by omega
          have HB6 := hide (((hB5.setCell (p := ⟨w.heap.size + 1, 0, none⟩) hle6 (.int .i64 s)).setCell (p := ⟨w.heap.size + 1, 1, none⟩) hle6 (.int .i64 Z)).setCell (p := ⟨w.heap.size + 1, 2, none⟩) hle6 (.int .i64 (l' - z k)))
          go_wp2
          go_roundw
          case measure => simp [intOf]; omega
          case rel => exact ⟨k + 1, Z, l' - z k, zz + z k, by omega, by go_num, rfl, rfl, HR2, hX2, HK6, unhide HB6, by simp; omega⟩
    · go_wp2_with fail
      refine (works15_any _).mono ?_
      rintro e w5 ⟨rfl, hw5⟩
      have hB5 : Below w.heap.size w w5 := hB.trans (hw5.mono hB.size)
      clear hw5
      go_wp2
      go_ret
      exact ⟨rfl, hB5⟩

theorem bufferKeeps_walk (t : Int) (wt : (Lit.int .i64 t).wf = true) (sp : Int) (wsp : (Lit.int .i64 sp).wf = true) (A : Option Addr) (len cap : Nat) (s : Int) (ws : (Lit.int .i64 s).wf = true) (a : Int) (hwa : (Lit.int .i64 a).wf = true) (l : Int) (hwl : (Lit.int .i64 l).wf = true) (B2 : Option Addr) (len2 cap2 : Nat) (w : World) (hr : RowOk w 5 [.str] A len cap) (hr2 : RowOk w 5 [.int .i64] B2 len2 cap2) :
    Calls Try.prog 6 #[.agg #[.int .i64 t, .int .i64 sp, .slice A len cap], .agg #[.int .i64 s, .int .i64 a, .int .i64 l], .slice B2 len2 cap2] w fun e w' => e = .returned (.bool true) ∧ Below w.heap.size w w' := by
  have hm := hr.1
  have hm2 := hr.2.1
  have hn := hr2.1
  have hn2 := hr2.2.1
  unfold maxLen at hm2 hn2
  obtain ⟨S, H, hS⟩ := ShOk.of_row hr
  have ha := (wf_i64 hwa).2
  by_cases h : fewB len S = true ∧ len2 ≤ 40 ∧ rgtB t sp len S s a l = true
  · obtain ⟨g, o, z, hA, hc⟩ := hr2.ints
    exact keeps_ok t wt sp wsp A len cap s a l ha B2 len2 cap2 S w H hS h.1 h.2.1 (rgtB_iff.1 h.2.2) z (hide (fun h0 => ⟨g, o, (hA h0).1, (hA h0).2, fun i hi => ⟨(hc i hi).1, (wf_i64 (hc i hi).2).2⟩⟩))
  · refine keeps_no t wt sp wsp A len cap s a l ha B2 len2 cap2 S w H hS (by omega) (by omega) ?_
    by_cases h1 : fewB len S = true
    · by_cases h2 : len2 ≤ 40
      · exact .inr (.inr (by simpa using fun h3 => h ⟨h1, h2, h3⟩))
      · exact .inr (.inl (by omega))
    · exact .inl (by simpa using h1)
end Go.Proofs.Ytkmoefijncjlhaa
