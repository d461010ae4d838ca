/- Package buffer: arguments opened; few shapes; the chapter's rows. -/
import Derived.Test.YtkmoefijncjlhaaByG
import Derived.Test.YtkmoefijncjlhaaOp
namespace Go.Proofs.Ytkmoefijncjlhaa
set_option linter.unusedVariables false
set_option linter.unusedSimpArgs false
open Go.RowKit

def strV : Value → ByteArray
  | .string s => s
  | _ => ⟨#[]⟩

theorem ShOk.of_row {w : World} {n : Nat} {A : Option Addr} {len cap : Nat} (h : RowOk w n [.str] A len cap) : ∃ S, ShOk w A len S ∧ ∀ i, i < len → (S i).size ≤ maxLen := by
  obtain ⟨g, o, f, hA, hc⟩ := h.open_
  have hs : ∀ i, i < len → w.cell? ⟨g, o + i, none⟩ = some (.string (strV (f i 0))) ∧ (strV (f i 0)).size ≤ maxLen := fun i hi => by
    obtain ⟨h1, h0⟩ := hc i hi 0 .str rfl
    obtain ⟨s, h2, h3⟩ := Leaf.ok_str h0
    simp only [List.length_cons, List.length_nil, Nat.zero_add, Nat.mul_one, Nat.add_zero] at h1
    rw [h1, h2]
    exact ⟨rfl, h3⟩
  exact ⟨fun i => strV (f i 0), fun hl => ⟨g, o, (hA hl).1, (hA hl).2, fun i hi => (hs i hi).1⟩, fun i hi => (hs i hi).2⟩

/-- No more shapes than are looked at. -/
def fewP (len : Nat) (S : Nat → ByteArray) : Prop := len ≤ 20 ∧ ∀ i, i < len → (S i).size ≤ 20
open Classical in
noncomputable def fewB (len : Nat) (S : Nat → ByteArray) : Bool := decide (fewP len S)
theorem fewB_iff {len : Nat} {S : Nat → ByteArray} : fewB len S = true ↔ fewP len S := by unfold fewB; simp

set_option maxHeartbeats 2000000 in
theorem few_any (t sp : Int) (A : Option Addr) (len cap : Nat) (S : Nat → ByteArray) (hlen : len ≤ 9223372036854775807) (w : World) (H : ShOk w A len S) (hS : ∀ i, i < len → (S i).size ≤ maxLen) :
    Calls Try.prog 8 #[.agg #[.int .i64 t, .int .i64 sp, .slice A len cap]] w fun e w' => e = .returned (.bool (fewB len S)) ∧ Below w.heap.size w w' := by
  by_cases h1 : 20 < len
  · have hr := hide (show fewB len S = false by rw [Bool.eq_false_iff, Ne, fewB_iff]; exact fun h => by have := h.1; omega)
    rw [unhide hr]
    go_enter Try.func8, Try.ntmps8
    go_wp2
    go_ret
    exact ⟨rfl, by repeat (first | exact Below.refl _ _ | assumption | refine Below.alloc ?_ (by first | (simp; done) | (simp; omega) | omega) _ | refine Below.setCell ?_ (by first | (simp; done) | (simp; omega) | omega) _ | apply Below.drew | refine Below.trans ?_ (Below.mono (by assumption) (by first | (simp; done) | (simp; omega) | omega)))⟩
  have h1b : len ≤ 20 := by omega
  have HC := hide (fun U (hU : Below w.heap.size w U) => H.keep hU)
  have HSz := hide hS
  have hy : Hid ((∀ i, i < len → (S i).size ≤ 20) → fewB len S = true) := hide (fun h => fewB_iff.2 ⟨h1b, h⟩)
  have hn : Hid (∀ i, i < len → 20 < (S i).size → fewB len S = false) := hide (fun i hi h => by
    rw [Bool.eq_false_iff, Ne, fewB_iff]
    exact fun hh => by have := hh.2 i hi; omega)
  generalize fewB len S = R at hy hn ⊢
  clear hS H
  go_enter Try.func8, Try.ntmps8
  go_wp2
  go_loopw [3] (fun i wr => ∃ k : Nat, k ≤ len ∧ i = .int .i64 k ∧ Hid (∀ j, j < k → (S j).size ≤ 20) ∧ wr = w.alloc (.cells #[.int .i64 t, .int .i64 sp, .slice A len cap] 24)) (fun i _ => len - (intOf i).toNat)
  case atStart => exact ⟨0, Nat.zero_le _, rfl, hide (fun j hj => by omega), rfl⟩
  case round =>
    obtain ⟨k, hk, rfl, HK, rfl⟩ := hrel
    by_cases hlt : k < len
    · obtain ⟨g, o, rfl, hg, hc⟩ := unhide HC w (Below.refl _ _) (by omega)
      have hcell : (w.alloc (.cells #[.int .i64 t, .int .i64 sp, .slice (some ⟨g, o, none⟩) len cap] 24)).cell? ⟨g, o + k, none⟩ = some (.string (S k)) := (World.cell?_alloc_lt _ _ _ hg).trans (hc k hlt)
      have hsz := unhide HSz k hlt
      unfold maxLen at hsz
      have b0 : (0 : Int) ≤ (k : Int) := by omega
      have b1 : (k : Int) < (len : Int) := by omega
      clear hc
      by_cases h2 : 20 < (S k).size
      · have hres := unhide hn k hlt h2
        subst hres
        go_wp2
        go_ret
        exact ⟨rfl, by repeat (first | exact Below.refl _ _ | assumption | refine Below.alloc ?_ (by first | (simp; done) | (simp; omega) | omega) _ | refine Below.setCell ?_ (by first | (simp; done) | (simp; omega) | omega) _ | apply Below.drew | refine Below.trans ?_ (Below.mono (by assumption) (by first | (simp; done) | (simp; omega) | omega)))⟩
      · have h3 : (S k).size ≤ 20 := by omega
        have HK2 : Hid (∀ j, j < k + 1 → (S j).size ≤ 20) := hide (fun j hj => by
          by_cases e : j = k
          · subst e; exact h3
          · exact unhide HK j (by omega))
        go_wp2
        go_roundw
        case measure => simp [intOf]; omega
        case rel => exact ⟨k + 1, by omega, by go_num, HK2, by trivial⟩
    · have hres := unhide hy (fun i hi => unhide HK i (by omega))
      subst hres
      go_wp2
      go_ret
      exact ⟨rfl, by repeat (first | exact Below.refl _ _ | assumption | refine Below.alloc ?_ (by first | (simp; done) | (simp; omega) | omega) _ | refine Below.setCell ?_ (by first | (simp; done) | (simp; omega) | omega) _ | apply Below.drew | refine Below.trans ?_ (Below.mono (by assumption) (by first | (simp; done) | (simp; omega) | omega)))⟩

/-- The one shape of the rows. -/
def S1 (_ : Nat) : ByteArray := ⟨#[112]⟩

theorem s1_sz : ∀ i, i < 1 → (S1 i).size ≤ 100 := fun _ _ => (by decide : (⟨#[112]⟩ : ByteArray).size ≤ 100)
theorem s1_ok (i : Nat) : okS (S1 i) := by
  refine ⟨(by decide : (⟨#[112]⟩ : ByteArray).size ≤ 8), fun j h => ?_⟩
  have h0 : j = 0 := by
    have : (S1 i).size = 1 := rfl
    omega
  subst h0
  exact .inl rfl
theorem s1_P {sp : Int} (h : 32 ≤ sp ∧ sp ≤ 4096) : okP 1 sp 1 S1 := ⟨by omega, h, by omega, by omega, fun i _ => s1_ok i⟩
theorem s1_rgt : rgt 1 32 1 S1 0 8 16 := ⟨s1_P (by omega), .inl rfl, by omega, fun h => by omega, fun _ => ⟨s1_P (by omega), .inl rfl, by omega, by omega, by unfold bas; omega, by unfold bas; omega⟩⟩
theorem s1_rgt0 {sp : Int} (h : 32 ≤ sp ∧ sp ≤ 4096) : rgt 1 sp 1 S1 0 0 0 := ⟨s1_P h, .inl rfl, by omega, fun _ => rfl, fun h => absurd rfl h⟩

theorem s1_new (W : World) (n : Nat) (hn : W.heap.size = n) (t : TypeId) : ShOk (W.alloc (.cells #[.string ⟨#[112]⟩] t)) (some ⟨n, 0, none⟩) 1 S1 := by
  subst hn
  refine fun _ => ⟨_, 0, rfl, by simp, fun i hi => ?_⟩
  match i, hi with
  | 0, _ => exact (World.cell?_alloc_new W _ _ _).trans rfl

theorem takeT1 (A : Option Addr) (W : World) (H : ShOk W A 1 S1) : Calls Try.prog 15 #[.agg #[.int .i64 1, .int .i64 32, .slice A 1 1], .agg #[.int .i64 0, .int .i64 8, .int .i64 16], .int .i64 5] W
    fun e w' => e = .returned (.tuple #[.agg #[.int .i64 0, .int .i64 13, .int .i64 11], .int .i64 8, .int .i64 0]) ∧ Below W.heap.size W w' := by
  have h := take_ok 1 32 A 1 1 S1 (by omega) s1_sz 0 8 16 5 (by omega) (rgtB_iff.2 s1_rgt) (by omega) (by omega) W H
  rw [show rsA (8 + 5) (16 - 5) = 13 by decide, show (16 - 5 : Int) = 11 by decide] at h
  exact h
theorem takeT2 (A : Option Addr) (W : World) (H : ShOk W A 1 S1) : Calls Try.prog 15 #[.agg #[.int .i64 1, .int .i64 32, .slice A 1 1], .agg #[.int .i64 0, .int .i64 8, .int .i64 16], .int .i64 17] W
    fun e w' => e = .returned (.tuple #[.agg #[.int .i64 0, .int .i64 0, .int .i64 0], .int .i64 0, .int .i64 4]) ∧ Below W.heap.size W w' :=
  take_less 1 32 A 1 1 S1 (by omega) s1_sz 0 8 16 17 (by omega) (rgtB_iff.2 s1_rgt) (by omega) (by omega) W H
theorem emptyT {sp : Int} (h : 32 ≤ sp ∧ sp ≤ 4096) (A : Option Addr) (W : World) (H : ShOk W A 1 S1) : Calls Try.prog 10 #[.agg #[.int .i64 1, .int .i64 sp, .slice A 1 1], .int .i64 0] W
    fun e w' => e = .returned (.tuple #[.agg #[.int .i64 0, .int .i64 0, .int .i64 0], .int .i64 0]) ∧ Below W.heap.size W w' := by
  have h := empty_any 1 sp A 1 1 S1 (by omega) s1_sz 0 W H
  rw [if_pos (rgtB_iff.2 (s1_rgt0 ‹_›)), if_pos (rgtB_iff.2 (s1_rgt0 ‹_›))] at h
  exact h
theorem giveT (A : Option Addr) (W : World) (H : ShOk W A 1 S1) : Calls Try.prog 19 #[.agg #[.int .i64 1, .int .i64 32, .slice A 1 1], .agg #[.int .i64 0, .int .i64 0, .int .i64 0], .agg #[.int .i64 0, .int .i64 8, .int .i64 16], .int .i64 5] W
    fun e w' => e = .returned (.tuple #[.agg #[.int .i64 0, .int .i64 13, .int .i64 11], .int .i64 0]) ∧ Below W.heap.size W w' :=
  give_any 1 32 A 1 1 S1 (by omega) s1_sz 0 0 0 0 8 16 5 (by omega) (by omega) W H true (hide (gv_iff.2 ⟨s1_rgt0 (by omega), ⟨by omega, rfl, by omega⟩, ⟨s1_P (by omega), .inl rfl, by omega, by omega, by unfold bas; omega, by unfold bas; omega⟩, .inr rfl⟩))
    0 13 11 0 (.inr (.inr ⟨rfl, by omega, by omega, rfl, by decide, by decide, rfl⟩))

set_option maxRecDepth 100000 in
set_option maxHeartbeats 4000000 in
theorem works15_any (w : World) : Calls Try.prog 9 #[] w fun e w' => e = .returned (.bool true) ∧ Below w.heap.size w w' := by
  have hw1 := fun l => wants_any 0 0 l 5
  have hw2 := fun l => wants_any 0 0 l 17
  have HW1 := hide (show ∀ W, Calls Try.prog 17 #[.agg #[.int .i64 0, .int .i64 0, .int .i64 0], .int .i64 5] W fun e w' => e = .returned (.tuple #[.int .i64 16, .bool true]) ∧ Below W.heap.size W w' from fun W => hw1 0 W)
  have HW2 := hide (show ∀ W, Calls Try.prog 17 #[.agg #[.int .i64 0, .int .i64 0, .int .i64 0], .int .i64 17] W fun e w' => e = .returned (.tuple #[.int .i64 0, .bool true]) ∧ Below W.heap.size W w' from fun W => hw2 0 W)
  clear hw1 hw2
  have HS := hide (fun U (hU : Below (w.heap.size + 1) (w.alloc (.cells #[.string ⟨#[112]⟩] 50)) U) => (s1_new w _ rfl 50).keep (by rw [World.size_alloc]; exact hU))
  go_enter Try.func9, Try.ntmps9
  go_wp2_with fail
  refine (takeT1 (some ⟨w.heap.size, 0, none⟩) _ (unhide HS _ (by repeat (first | exact Below.refl _ _ | assumption | refine Below.alloc ?_ (by first | (simp; done) | (simp; omega) | omega) _ | refine Below.setCell ?_ (by first | (simp; done) | (simp; omega) | omega) _ | apply Below.drew | refine Below.trans ?_ (Below.mono (by assumption) (by first | (simp; done) | (simp; omega) | omega)))))).mono ?_
  rintro e w1 ⟨rfl, hw1⟩; obtain ⟨hcw1, hfw1⟩ := bcell hw1; (try (simp only [World.size_drew, World.cell?_drew, World.frozen?_drew] at hcw1 hfw1)); have hzw1 := hw1.size; (try (simp only [World.size_alloc, World.size_setCell, World.size_drew] at hzw1)); (try (have hzw1_w_0 : w.heap.size < w1.heap.size := by omega)); (try (have hzw1_w_1 : w.heap.size + 1 < w1.heap.size := by omega)); (try (have hzw1_w_2 : w.heap.size + 1 + 1 < w1.heap.size := by omega)); (try (have hzw1_w_3 : w.heap.size + 1 + 1 + 1 < w1.heap.size := by omega)); (try (have hyw1_w : w.heap.size ≤ w1.heap.size := by omega)); (try (have hyw1_wa : w.heap.size + 1 ≤ w1.heap.size := by omega))
  have B1 : Below (w.heap.size + 1) (w.alloc (.cells #[.string ⟨#[112]⟩] 50)) w1 := by repeat (first | exact Below.refl _ _ | assumption | refine Below.alloc ?_ (by first | (simp; done) | (simp; omega) | omega) _ | refine Below.setCell ?_ (by first | (simp; done) | (simp; omega) | omega) _ | apply Below.drew | refine Below.trans ?_ (Below.mono (by assumption) (by first | (simp; done) | (simp; omega) | omega)))
  go_wp2_with fail
  refine (takeT2 (some ⟨w.heap.size, 0, none⟩) _ (unhide HS _ (by repeat (first | exact Below.refl _ _ | assumption | refine Below.alloc ?_ (by first | (simp; done) | (simp; omega) | omega) _ | refine Below.setCell ?_ (by first | (simp; done) | (simp; omega) | omega) _ | apply Below.drew | refine Below.trans ?_ (Below.mono (by assumption) (by first | (simp; done) | (simp; omega) | omega)))))).mono ?_
  rintro e w2 ⟨rfl, hw2⟩; obtain ⟨hcw2, hfw2⟩ := bcell hw2; (try (simp only [World.size_drew, World.cell?_drew, World.frozen?_drew] at hcw2 hfw2)); have hzw2 := hw2.size; (try (simp only [World.size_alloc, World.size_setCell, World.size_drew] at hzw2)); (try (have hzw2_w_0 : w.heap.size < w2.heap.size := by omega)); (try (have hzw2_w_1 : w.heap.size + 1 < w2.heap.size := by omega)); (try (have hzw2_w_2 : w.heap.size + 1 + 1 < w2.heap.size := by omega)); (try (have hzw2_w_3 : w.heap.size + 1 + 1 + 1 < w2.heap.size := by omega)); (try (have hyw2_w : w.heap.size ≤ w2.heap.size := by omega)); (try (have hyw2_wa : w.heap.size + 1 ≤ w2.heap.size := by omega)); (try (have hzw2_w1_0 : w1.heap.size < w2.heap.size := by omega)); (try (have hzw2_w1_1 : w1.heap.size + 1 < w2.heap.size := by omega)); (try (have hzw2_w1_2 : w1.heap.size + 1 + 1 < w2.heap.size := by omega)); (try (have hzw2_w1_3 : w1.heap.size + 1 + 1 + 1 < w2.heap.size := by omega)); (try (have hyw2_w1 : w1.heap.size ≤ w2.heap.size := by omega)); (try (have hyw2_w1a : w1.heap.size + 1 ≤ w2.heap.size := by omega))
  have B2 : Below (w.heap.size + 1) (w.alloc (.cells #[.string ⟨#[112]⟩] 50)) w2 := by repeat (first | exact Below.refl _ _ | assumption | refine Below.alloc ?_ (by first | (simp; done) | (simp; omega) | omega) _ | refine Below.setCell ?_ (by first | (simp; done) | (simp; omega) | omega) _ | apply Below.drew | refine Below.trans ?_ (Below.mono (by assumption) (by first | (simp; done) | (simp; omega) | omega)))
  go_wp2_with fail
  refine (emptyT (by omega) (some ⟨w.heap.size, 0, none⟩) _ (unhide HS _ (by repeat (first | exact Below.refl _ _ | assumption | refine Below.alloc ?_ (by first | (simp; done) | (simp; omega) | omega) _ | refine Below.setCell ?_ (by first | (simp; done) | (simp; omega) | omega) _ | apply Below.drew | refine Below.trans ?_ (Below.mono (by assumption) (by first | (simp; done) | (simp; omega) | omega)))))).mono ?_
  rintro e w3 ⟨rfl, hw3⟩; obtain ⟨hcw3, hfw3⟩ := bcell hw3; (try (simp only [World.size_drew, World.cell?_drew, World.frozen?_drew] at hcw3 hfw3)); have hzw3 := hw3.size; (try (simp only [World.size_alloc, World.size_setCell, World.size_drew] at hzw3)); (try (have hzw3_w_0 : w.heap.size < w3.heap.size := by omega)); (try (have hzw3_w_1 : w.heap.size + 1 < w3.heap.size := by omega)); (try (have hzw3_w_2 : w.heap.size + 1 + 1 < w3.heap.size := by omega)); (try (have hzw3_w_3 : w.heap.size + 1 + 1 + 1 < w3.heap.size := by omega)); (try (have hyw3_w : w.heap.size ≤ w3.heap.size := by omega)); (try (have hyw3_wa : w.heap.size + 1 ≤ w3.heap.size := by omega)); (try (have hzw3_w1_0 : w1.heap.size < w3.heap.size := by omega)); (try (have hzw3_w1_1 : w1.heap.size + 1 < w3.heap.size := by omega)); (try (have hzw3_w1_2 : w1.heap.size + 1 + 1 < w3.heap.size := by omega)); (try (have hzw3_w1_3 : w1.heap.size + 1 + 1 + 1 < w3.heap.size := by omega)); (try (have hyw3_w1 : w1.heap.size ≤ w3.heap.size := by omega)); (try (have hyw3_w1a : w1.heap.size + 1 ≤ w3.heap.size := by omega)); (try (have hzw3_w2_0 : w2.heap.size < w3.heap.size := by omega)); (try (have hzw3_w2_1 : w2.heap.size + 1 < w3.heap.size := by omega)); (try (have hzw3_w2_2 : w2.heap.size + 1 + 1 < w3.heap.size := by omega)); (try (have hzw3_w2_3 : w2.heap.size + 1 + 1 + 1 < w3.heap.size := by omega)); (try (have hyw3_w2 : w2.heap.size ≤ w3.heap.size := by omega)); (try (have hyw3_w2a : w2.heap.size + 1 ≤ w3.heap.size := by omega))
  have B3 : Below (w.heap.size + 1) (w.alloc (.cells #[.string ⟨#[112]⟩] 50)) w3 := by repeat (first | exact Below.refl _ _ | assumption | refine Below.alloc ?_ (by first | (simp; done) | (simp; omega) | omega) _ | refine Below.setCell ?_ (by first | (simp; done) | (simp; omega) | omega) _ | apply Below.drew | refine Below.trans ?_ (Below.mono (by assumption) (by first | (simp; done) | (simp; omega) | omega)))
  go_wp2_with fail
  refine (unhide HW1 _).mono ?_
  rintro e w4 ⟨rfl, hw4⟩; obtain ⟨hcw4, hfw4⟩ := bcell hw4; (try (simp only [World.size_drew, World.cell?_drew, World.frozen?_drew] at hcw4 hfw4)); have hzw4 := hw4.size; (try (simp only [World.size_alloc, World.size_setCell, World.size_drew] at hzw4)); (try (have hzw4_w_0 : w.heap.size < w4.heap.size := by omega)); (try (have hzw4_w_1 : w.heap.size + 1 < w4.heap.size := by omega)); (try (have hzw4_w_2 : w.heap.size + 1 + 1 < w4.heap.size := by omega)); (try (have hzw4_w_3 : w.heap.size + 1 + 1 + 1 < w4.heap.size := by omega)); (try (have hyw4_w : w.heap.size ≤ w4.heap.size := by omega)); (try (have hyw4_wa : w.heap.size + 1 ≤ w4.heap.size := by omega)); (try (have hzw4_w1_0 : w1.heap.size < w4.heap.size := by omega)); (try (have hzw4_w1_1 : w1.heap.size + 1 < w4.heap.size := by omega)); (try (have hzw4_w1_2 : w1.heap.size + 1 + 1 < w4.heap.size := by omega)); (try (have hzw4_w1_3 : w1.heap.size + 1 + 1 + 1 < w4.heap.size := by omega)); (try (have hyw4_w1 : w1.heap.size ≤ w4.heap.size := by omega)); (try (have hyw4_w1a : w1.heap.size + 1 ≤ w4.heap.size := by omega)); (try (have hzw4_w2_0 : w2.heap.size < w4.heap.size := by omega)); (try (have hzw4_w2_1 : w2.heap.size + 1 < w4.heap.size := by omega)); (try (have hzw4_w2_2 : w2.heap.size + 1 + 1 < w4.heap.size := by omega)); (try (have hzw4_w2_3 : w2.heap.size + 1 + 1 + 1 < w4.heap.size := by omega)); (try (have hyw4_w2 : w2.heap.size ≤ w4.heap.size := by omega)); (try (have hyw4_w2a : w2.heap.size + 1 ≤ w4.heap.size := by omega)); (try (have hzw4_w3_0 : w3.heap.size < w4.heap.size := by omega)); (try (have hzw4_w3_1 : w3.heap.size + 1 < w4.heap.size := by omega)); (try (have hzw4_w3_2 : w3.heap.size + 1 + 1 < w4.heap.size := by omega)); (try (have hzw4_w3_3 : w3.heap.size + 1 + 1 + 1 < w4.heap.size := by omega)); (try (have hyw4_w3 : w3.heap.size ≤ w4.heap.size := by omega)); (try (have hyw4_w3a : w3.heap.size + 1 ≤ w4.heap.size := by omega))
  have B4 : Below (w.heap.size + 1) (w.alloc (.cells #[.string ⟨#[112]⟩] 50)) w4 := by repeat (first | exact Below.refl _ _ | assumption | refine Below.alloc ?_ (by first | (simp; done) | (simp; omega) | omega) _ | refine Below.setCell ?_ (by first | (simp; done) | (simp; omega) | omega) _ | apply Below.drew | refine Below.trans ?_ (Below.mono (by assumption) (by first | (simp; done) | (simp; omega) | omega)))
  go_wp2_with fail
  refine (unhide HW2 _).mono ?_
  rintro e w5 ⟨rfl, hw5⟩; obtain ⟨hcw5, hfw5⟩ := bcell hw5; (try (simp only [World.size_drew, World.cell?_drew, World.frozen?_drew] at hcw5 hfw5)); have hzw5 := hw5.size; (try (simp only [World.size_alloc, World.size_setCell, World.size_drew] at hzw5)); (try (have hzw5_w_0 : w.heap.size < w5.heap.size := by omega)); (try (have hzw5_w_1 : w.heap.size + 1 < w5.heap.size := by omega)); (try (have hzw5_w_2 : w.heap.size + 1 + 1 < w5.heap.size := by omega)); (try (have hzw5_w_3 : w.heap.size + 1 + 1 + 1 < w5.heap.size := by omega)); (try (have hyw5_w : w.heap.size ≤ w5.heap.size := by omega)); (try (have hyw5_wa : w.heap.size + 1 ≤ w5.heap.size := by omega)); (try (have hzw5_w1_0 : w1.heap.size < w5.heap.size := by omega)); (try (have hzw5_w1_1 : w1.heap.size + 1 < w5.heap.size := by omega)); (try (have hzw5_w1_2 : w1.heap.size + 1 + 1 < w5.heap.size := by omega)); (try (have hzw5_w1_3 : w1.heap.size + 1 + 1 + 1 < w5.heap.size := by omega)); (try (have hyw5_w1 : w1.heap.size ≤ w5.heap.size := by omega)); (try (have hyw5_w1a : w1.heap.size + 1 ≤ w5.heap.size := by omega)); (try (have hzw5_w2_0 : w2.heap.size < w5.heap.size := by omega)); (try (have hzw5_w2_1 : w2.heap.size + 1 < w5.heap.size := by omega)); (try (have hzw5_w2_2 : w2.heap.size + 1 + 1 < w5.heap.size := by omega)); (try (have hzw5_w2_3 : w2.heap.size + 1 + 1 + 1 < w5.heap.size := by omega)); (try (have hyw5_w2 : w2.heap.size ≤ w5.heap.size := by omega)); (try (have hyw5_w2a : w2.heap.size + 1 ≤ w5.heap.size := by omega)); (try (have hzw5_w3_0 : w3.heap.size < w5.heap.size := by omega)); (try (have hzw5_w3_1 : w3.heap.size + 1 < w5.heap.size := by omega)); (try (have hzw5_w3_2 : w3.heap.size + 1 + 1 < w5.heap.size := by omega)); (try (have hzw5_w3_3 : w3.heap.size + 1 + 1 + 1 < w5.heap.size := by omega)); (try (have hyw5_w3 : w3.heap.size ≤ w5.heap.size := by omega)); (try (have hyw5_w3a : w3.heap.size + 1 ≤ w5.heap.size := by omega)); (try (have hzw5_w4_0 : w4.heap.size < w5.heap.size := by omega)); (try (have hzw5_w4_1 : w4.heap.size + 1 < w5.heap.size := by omega)); (try (have hzw5_w4_2 : w4.heap.size + 1 + 1 < w5.heap.size := by omega)); (try (have hzw5_w4_3 : w4.heap.size + 1 + 1 + 1 < w5.heap.size := by omega)); (try (have hyw5_w4 : w4.heap.size ≤ w5.heap.size := by omega)); (try (have hyw5_w4a : w4.heap.size + 1 ≤ w5.heap.size := by omega))
  have B5 : Below (w.heap.size + 1) (w.alloc (.cells #[.string ⟨#[112]⟩] 50)) w5 := by repeat (first | exact Below.refl _ _ | assumption | refine Below.alloc ?_ (by first | (simp; done) | (simp; omega) | omega) _ | refine Below.setCell ?_ (by first | (simp; done) | (simp; omega) | omega) _ | apply Below.drew | refine Below.trans ?_ (Below.mono (by assumption) (by first | (simp; done) | (simp; omega) | omega)))
  go_wp2_with fail
  refine (giveT (some ⟨w.heap.size, 0, none⟩) _ (unhide HS _ (by repeat (first | exact Below.refl _ _ | assumption | refine Below.alloc ?_ (by first | (simp; done) | (simp; omega) | omega) _ | refine Below.setCell ?_ (by first | (simp; done) | (simp; omega) | omega) _ | apply Below.drew | refine Below.trans ?_ (Below.mono (by assumption) (by first | (simp; done) | (simp; omega) | omega)))))).mono ?_
  rintro e w6 ⟨rfl, hw6⟩; obtain ⟨hcw6, hfw6⟩ := bcell hw6; (try (simp only [World.size_drew, World.cell?_drew, World.frozen?_drew] at hcw6 hfw6)); have hzw6 := hw6.size; (try (simp only [World.size_alloc, World.size_setCell, World.size_drew] at hzw6)); (try (have hzw6_w_0 : w.heap.size < w6.heap.size := by omega)); (try (have hzw6_w_1 : w.heap.size + 1 < w6.heap.size := by omega)); (try (have hzw6_w_2 : w.heap.size + 1 + 1 < w6.heap.size := by omega)); (try (have hzw6_w_3 : w.heap.size + 1 + 1 + 1 < w6.heap.size := by omega)); (try (have hyw6_w : w.heap.size ≤ w6.heap.size := by omega)); (try (have hyw6_wa : w.heap.size + 1 ≤ w6.heap.size := by omega)); (try (have hzw6_w1_0 : w1.heap.size < w6.heap.size := by omega)); (try (have hzw6_w1_1 : w1.heap.size + 1 < w6.heap.size := by omega)); (try (have hzw6_w1_2 : w1.heap.size + 1 + 1 < w6.heap.size := by omega)); (try (have hzw6_w1_3 : w1.heap.size + 1 + 1 + 1 < w6.heap.size := by omega)); (try (have hyw6_w1 : w1.heap.size ≤ w6.heap.size := by omega)); (try (have hyw6_w1a : w1.heap.size + 1 ≤ w6.heap.size := by omega)); (try (have hzw6_w2_0 : w2.heap.size < w6.heap.size := by omega)); (try (have hzw6_w2_1 : w2.heap.size + 1 < w6.heap.size := by omega)); (try (have hzw6_w2_2 : w2.heap.size + 1 + 1 < w6.heap.size := by omega)); (try (have hzw6_w2_3 : w2.heap.size + 1 + 1 + 1 < w6.heap.size := by omega)); (try (have hyw6_w2 : w2.heap.size ≤ w6.heap.size := by omega)); (try (have hyw6_w2a : w2.heap.size + 1 ≤ w6.heap.size := by omega)); (try (have hzw6_w3_0 : w3.heap.size < w6.heap.size := by omega)); (try (have hzw6_w3_1 : w3.heap.size + 1 < w6.heap.size := by omega)); (try (have hzw6_w3_2 : w3.heap.size + 1 + 1 < w6.heap.size := by omega)); (try (have hzw6_w3_3 : w3.heap.size + 1 + 1 + 1 < w6.heap.size := by omega)); (try (have hyw6_w3 : w3.heap.size ≤ w6.heap.size := by omega)); (try (have hyw6_w3a : w3.heap.size + 1 ≤ w6.heap.size := by omega)); (try (have hzw6_w4_0 : w4.heap.size < w6.heap.size := by omega)); (try (have hzw6_w4_1 : w4.heap.size + 1 < w6.heap.size := by omega)); (try (have hzw6_w4_2 : w4.heap.size + 1 + 1 < w6.heap.size := by omega)); (try (have hzw6_w4_3 : w4.heap.size + 1 + 1 + 1 < w6.heap.size := by omega)); (try (have hyw6_w4 : w4.heap.size ≤ w6.heap.size := by omega)); (try (have hyw6_w4a : w4.heap.size + 1 ≤ w6.heap.size := by omega)); (try (have hzw6_w5_0 : w5.heap.size < w6.heap.size := by omega)); (try (have hzw6_w5_1 : w5.heap.size + 1 < w6.heap.size := by omega)); (try (have hzw6_w5_2 : w5.heap.size + 1 + 1 < w6.heap.size := by omega)); (try (have hzw6_w5_3 : w5.heap.size + 1 + 1 + 1 < w6.heap.size := by omega)); (try (have hyw6_w5 : w5.heap.size ≤ w6.heap.size := by omega)); (try (have hyw6_w5a : w5.heap.size + 1 ≤ w6.heap.size := by omega))
  have B6 : Below (w.heap.size + 1) (w.alloc (.cells #[.string ⟨#[112]⟩] 50)) w6 := by repeat (first | exact Below.refl _ _ | assumption | refine Below.alloc ?_ (by first | (simp; done) | (simp; omega) | omega) _ | refine Below.setCell ?_ (by first | (simp; done) | (simp; omega) | omega) _ | apply Below.drew | refine Below.trans ?_ (Below.mono (by assumption) (by first | (simp; done) | (simp; omega) | omega)))
  have B7 : Below w.heap.size w w6 := ((Below.refl _ w).alloc (Nat.le_refl _) _).trans (B6.mono (by omega))
  go_wp2_with (go_at_call 12; refine (num15_any _ _).mono ?_; rintro e w' ⟨rfl, rfl⟩)
  all_goals
    go_ret
    refine ⟨rfl, ?_⟩
    repeat (first | exact Below.refl _ _ | assumption | refine Below.alloc ?_ (by first | (simp; done) | (simp; omega) | omega) _ | refine Below.setCell ?_ (by first | (simp; done) | (simp; omega) | omega) _ | apply Below.drew | refine Below.trans ?_ (Below.mono (by assumption) (by first | (simp; done) | (simp; omega) | omega)))
end Go.Proofs.Ytkmoefijncjlhaa
