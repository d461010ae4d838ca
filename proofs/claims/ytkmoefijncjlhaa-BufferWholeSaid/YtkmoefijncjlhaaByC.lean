/- The walks of package buffer: which buffers may be; what is left; the same of its reference. -/
import Derived.Test.YtkmoefijncjlhaaByB
namespace Go.Proofs.Ytkmoefijncjlhaa
set_option linter.unusedVariables false
set_option linter.unusedSimpArgs false
open Go.RowKit

/-- Are n words from a place on all of a space? -/
def wit (t sp : Int) (len : Nat) (S : Nat → ByteArray) (s a n : Int) : Prop := okP t sp len S ∧ (s = 0 ∨ s = 1) ∧ 0 ≤ n ∧ n ≤ sp ∧ bas t sp s ≤ a ∧ a - bas t sp s ≤ sp - n
/-- May a buffer be? -/
def rgt (t sp : Int) (len : Nat) (S : Nat → ByteArray) (s a l : Int) : Prop := okP t sp len S ∧ (s = 0 ∨ s = 1) ∧ 0 ≤ l ∧ (l = 0 → a = 0) ∧ (l ≠ 0 → wit t sp len S s a l)
open Classical in
noncomputable def witB (t sp : Int) (len : Nat) (S : Nat → ByteArray) (s a n : Int) : Bool := decide (wit t sp len S s a n)
open Classical in
noncomputable def rgtB (t sp : Int) (len : Nat) (S : Nat → ByteArray) (s a l : Int) : Bool := decide (rgt t sp len S s a l)

theorem witB_iff {t sp : Int} {len : Nat} {S : Nat → ByteArray} {s a n : Int} : witB t sp len S s a n = true ↔ wit t sp len S s a n := by unfold witB; simp
theorem rgtB_iff {t sp : Int} {len : Nat} {S : Nat → ByteArray} {s a n : Int} : rgtB t sp len S s a n = true ↔ rgt t sp len S s a n := by unfold rgtB; simp
theorem witB_no {t sp : Int} {len : Nat} {S : Nat → ByteArray} {s a n : Int} (h : ¬ wit t sp len S s a n) : witB t sp len S s a n = false := by rw [Bool.eq_false_iff, Ne, witB_iff]; exact h
theorem rgtB_no {t sp : Int} {len : Nat} {S : Nat → ByteArray} {s a n : Int} (h : ¬ rgt t sp len S s a n) : rgtB t sp len S s a n = false := by rw [Bool.eq_false_iff, Ne, rgtB_iff]; exact h

theorem bas_le {t sp s : Int} (h1 : 1 ≤ t ∧ t ≤ 8) (h2 : 32 ≤ sp ∧ sp ≤ 4096) (h3 : s = 0 ∨ s = 1) : 5 ≤ bas t sp s ∧ bas t sp s ≤ 5000 := by
  unfold bas
  rcases h3 with rfl | rfl <;> omega

theorem num15_any (x : Int) (w : World) : Calls Try.prog 12 #[.int .i64 x] w fun e w' => e = .returned (.int .i64 x) ∧ w = w' := by
  go_enter Try.func12, Try.ntmps12
  go_wp2
  go_ret
  exact ⟨rfl, rfl⟩

set_option maxHeartbeats 4000000 in
theorem within_any (t sp : Int) (A : Option Addr) (len cap : Nat) (S : Nat → ByteArray) (hlen : len ≤ 1000) (hS : ∀ i, i < len → (S i).size ≤ 100) (s a0 l0 a n : Int) (ha : a ≤ 9223372036854775807) (w : World) (H : ShOk w A len S) :
    Calls Try.prog 31 #[.agg #[.int .i64 s, .int .i64 a0, .int .i64 l0, .int .i64 t, .int .i64 sp, .slice A len cap], .int .i64 a, .int .i64 n] w fun e w' => e = .returned (.bool (witB t sp len S s a n)) ∧ Below w.heap.size w w' := by
  have c1 := hide (fun W (hW : Below w.heap.size w W) => layBase_any t sp s A len cap S hlen hS W (H.keep hW))
  clear H hS
  by_cases hp : okP t sp len S ∧ (s = 0 ∨ s = 1)
  · have ev : basV t sp s len S = bas t sp s := by unfold basV; rw [if_pos ⟨okPB_iff.2 hp.1, hp.2⟩]
    have ee : basE t sp s len S = 0 := by unfold basE; rw [if_pos (okPB_iff.2 hp.1), if_pos hp.2]
    rw [ev, ee] at c1
    have hb := bas_le hp.1.1 hp.1.2.1 hp.2
    have hsp := hp.1.2.1
    have hw := hide (show wit t sp len S s a n ↔ 0 ≤ n ∧ n ≤ sp ∧ bas t sp s ≤ a ∧ a - bas t sp s ≤ sp - n from ⟨fun h => h.2.2, fun h => ⟨hp.1, hp.2, h⟩⟩)
    clear hp ev ee
    generalize bas t sp s = B at c1 hb hw
    obtain ⟨hb1, hb2⟩ := hb
    obtain ⟨hs1, hs2⟩ := hsp
    by_cases h1 : 0 ≤ n
    · by_cases h2 : n ≤ sp
      · by_cases h3 : B ≤ a
        · have hr : Hid (witB t sp len S s a n = decide (a - B ≤ sp - n)) := hide (by rw [Bool.eq_iff_iff, witB_iff, unhide hw]; simp; omega)
          go_enter Try.func31, Try.ntmps31
          go_wp2_with fail
          refine (unhide c1 _ (by repeat (first | exact Below.refl _ _ | assumption | refine Below.alloc ?_ (by first | (simp; done) | (simp; omega) | omega) _ | refine Below.setCell ?_ (by first | (simp; done) | (simp; omega) | omega) _ | apply Below.drew | refine Below.trans ?_ (Below.mono (by assumption) (by first | (simp; done) | (simp; omega) | omega))))).mono ?_
          rintro e w2 ⟨rfl, hw2⟩; obtain ⟨hcw2, hfw2⟩ := bcell hw2; (try (simp only [World.size_drew, World.cell?_drew, World.frozen?_drew] at hcw2 hfw2)); have hzw2 := hw2.size; (try (simp only [World.size_alloc, World.size_setCell, World.size_drew] at hzw2)); (try (have hzw2_w_0 : w.heap.size < w2.heap.size := by omega)); (try (have hzw2_w_1 : w.heap.size + 1 < w2.heap.size := by omega)); (try (have hzw2_w_2 : w.heap.size + 1 + 1 < w2.heap.size := by omega)); (try (have hzw2_w_3 : w.heap.size + 1 + 1 + 1 < w2.heap.size := by omega)); (try (have hyw2_w : w.heap.size ≤ w2.heap.size := by omega)); (try (have hyw2_wa : w.heap.size + 1 ≤ w2.heap.size := by omega))
          go_wp2
          go_ret
          exact ⟨ret_bool (by rw [unhide hr]), by repeat (first | exact Below.refl _ _ | assumption | refine Below.alloc ?_ (by first | (simp; done) | (simp; omega) | omega) _ | refine Below.setCell ?_ (by first | (simp; done) | (simp; omega) | omega) _ | apply Below.drew | refine Below.trans ?_ (Below.mono (by assumption) (by first | (simp; done) | (simp; omega) | omega)))⟩
        · have hr : Hid (witB t sp len S s a n = false) := hide (witB_no (fun h => by have := (unhide hw).1 h; omega))
          go_enter Try.func31, Try.ntmps31
          go_wp2_with fail
          refine (unhide c1 _ (by repeat (first | exact Below.refl _ _ | assumption | refine Below.alloc ?_ (by first | (simp; done) | (simp; omega) | omega) _ | refine Below.setCell ?_ (by first | (simp; done) | (simp; omega) | omega) _ | apply Below.drew | refine Below.trans ?_ (Below.mono (by assumption) (by first | (simp; done) | (simp; omega) | omega))))).mono ?_
          rintro e w2 ⟨rfl, hw2⟩; obtain ⟨hcw2, hfw2⟩ := bcell hw2; (try (simp only [World.size_drew, World.cell?_drew, World.frozen?_drew] at hcw2 hfw2)); have hzw2 := hw2.size; (try (simp only [World.size_alloc, World.size_setCell, World.size_drew] at hzw2)); (try (have hzw2_w_0 : w.heap.size < w2.heap.size := by omega)); (try (have hzw2_w_1 : w.heap.size + 1 < w2.heap.size := by omega)); (try (have hzw2_w_2 : w.heap.size + 1 + 1 < w2.heap.size := by omega)); (try (have hzw2_w_3 : w.heap.size + 1 + 1 + 1 < w2.heap.size := by omega)); (try (have hyw2_w : w.heap.size ≤ w2.heap.size := by omega)); (try (have hyw2_wa : w.heap.size + 1 ≤ w2.heap.size := by omega))
          go_wp2
          go_ret
          exact ⟨ret_bool (by rw [unhide hr]), by repeat (first | exact Below.refl _ _ | assumption | refine Below.alloc ?_ (by first | (simp; done) | (simp; omega) | omega) _ | refine Below.setCell ?_ (by first | (simp; done) | (simp; omega) | omega) _ | apply Below.drew | refine Below.trans ?_ (Below.mono (by assumption) (by first | (simp; done) | (simp; omega) | omega)))⟩
      · have hr : Hid (witB t sp len S s a n = false) := hide (witB_no (fun h => by have := (unhide hw).1 h; omega))
        go_enter Try.func31, Try.ntmps31
        go_wp2_with fail
        refine (unhide c1 _ (by repeat (first | exact Below.refl _ _ | assumption | refine Below.alloc ?_ (by first | (simp; done) | (simp; omega) | omega) _ | refine Below.setCell ?_ (by first | (simp; done) | (simp; omega) | omega) _ | apply Below.drew | refine Below.trans ?_ (Below.mono (by assumption) (by first | (simp; done) | (simp; omega) | omega))))).mono ?_
        rintro e w2 ⟨rfl, hw2⟩; obtain ⟨hcw2, hfw2⟩ := bcell hw2; (try (simp only [World.size_drew, World.cell?_drew, World.frozen?_drew] at hcw2 hfw2)); have hzw2 := hw2.size; (try (simp only [World.size_alloc, World.size_setCell, World.size_drew] at hzw2)); (try (have hzw2_w_0 : w.heap.size < w2.heap.size := by omega)); (try (have hzw2_w_1 : w.heap.size + 1 < w2.heap.size := by omega)); (try (have hzw2_w_2 : w.heap.size + 1 + 1 < w2.heap.size := by omega)); (try (have hzw2_w_3 : w.heap.size + 1 + 1 + 1 < w2.heap.size := by omega)); (try (have hyw2_w : w.heap.size ≤ w2.heap.size := by omega)); (try (have hyw2_wa : w.heap.size + 1 ≤ w2.heap.size := by omega))
        go_wp2
        go_ret
        exact ⟨ret_bool (by rw [unhide hr]), by repeat (first | exact Below.refl _ _ | assumption | refine Below.alloc ?_ (by first | (simp; done) | (simp; omega) | omega) _ | refine Below.setCell ?_ (by first | (simp; done) | (simp; omega) | omega) _ | apply Below.drew | refine Below.trans ?_ (Below.mono (by assumption) (by first | (simp; done) | (simp; omega) | omega)))⟩
    · have hr : Hid (witB t sp len S s a n = false) := hide (witB_no (fun h => by have := (unhide hw).1 h; omega))
      go_enter Try.func31, Try.ntmps31
      go_wp2_with fail
      refine (unhide c1 _ (by repeat (first | exact Below.refl _ _ | assumption | refine Below.alloc ?_ (by first | (simp; done) | (simp; omega) | omega) _ | refine Below.setCell ?_ (by first | (simp; done) | (simp; omega) | omega) _ | apply Below.drew | refine Below.trans ?_ (Below.mono (by assumption) (by first | (simp; done) | (simp; omega) | omega))))).mono ?_
      rintro e w2 ⟨rfl, hw2⟩; obtain ⟨hcw2, hfw2⟩ := bcell hw2; (try (simp only [World.size_drew, World.cell?_drew, World.frozen?_drew] at hcw2 hfw2)); have hzw2 := hw2.size; (try (simp only [World.size_alloc, World.size_setCell, World.size_drew] at hzw2)); (try (have hzw2_w_0 : w.heap.size < w2.heap.size := by omega)); (try (have hzw2_w_1 : w.heap.size + 1 < w2.heap.size := by omega)); (try (have hzw2_w_2 : w.heap.size + 1 + 1 < w2.heap.size := by omega)); (try (have hzw2_w_3 : w.heap.size + 1 + 1 + 1 < w2.heap.size := by omega)); (try (have hyw2_w : w.heap.size ≤ w2.heap.size := by omega)); (try (have hyw2_wa : w.heap.size + 1 ≤ w2.heap.size := by omega))
      go_wp2
      go_ret
      exact ⟨ret_bool (by rw [unhide hr]), by repeat (first | exact Below.refl _ _ | assumption | refine Below.alloc ?_ (by first | (simp; done) | (simp; omega) | omega) _ | refine Below.setCell ?_ (by first | (simp; done) | (simp; omega) | omega) _ | apply Below.drew | refine Below.trans ?_ (Below.mono (by assumption) (by first | (simp; done) | (simp; omega) | omega)))⟩
  · have hr : Hid (witB t sp len S s a n = false) := hide (witB_no (fun h => hp ⟨h.1, h.2.1⟩))
    have hE : (basE t sp s len S == 0) = false := by
      unfold basE
      split
      · rw [if_neg (fun h => hp ⟨okPB_iff.1 (by assumption), h⟩)]; rfl
      · rfl
    generalize basE t sp s len S = E at c1 hE
    generalize basV t sp s len S = V at c1
    clear hp
    go_enter Try.func31, Try.ntmps31
    go_wp2_with fail
    refine (unhide c1 _ (by repeat (first | exact Below.refl _ _ | assumption | refine Below.alloc ?_ (by first | (simp; done) | (simp; omega) | omega) _ | refine Below.setCell ?_ (by first | (simp; done) | (simp; omega) | omega) _ | apply Below.drew | refine Below.trans ?_ (Below.mono (by assumption) (by first | (simp; done) | (simp; omega) | omega))))).mono ?_
    rintro e w2 ⟨rfl, hw2⟩; obtain ⟨hcw2, hfw2⟩ := bcell hw2; (try (simp only [World.size_drew, World.cell?_drew, World.frozen?_drew] at hcw2 hfw2)); have hzw2 := hw2.size; (try (simp only [World.size_alloc, World.size_setCell, World.size_drew] at hzw2)); (try (have hzw2_w_0 : w.heap.size < w2.heap.size := by omega)); (try (have hzw2_w_1 : w.heap.size + 1 < w2.heap.size := by omega)); (try (have hzw2_w_2 : w.heap.size + 1 + 1 < w2.heap.size := by omega)); (try (have hzw2_w_3 : w.heap.size + 1 + 1 + 1 < w2.heap.size := by omega)); (try (have hyw2_w : w.heap.size ≤ w2.heap.size := by omega)); (try (have hyw2_wa : w.heap.size + 1 ≤ w2.heap.size := by omega))
    go_wp2
    go_ret
    exact ⟨ret_bool (by rw [unhide hr]), by repeat (first | exact Below.refl _ _ | assumption | refine Below.alloc ?_ (by first | (simp; done) | (simp; omega) | omega) _ | refine Below.setCell ?_ (by first | (simp; done) | (simp; omega) | omega) _ | apply Below.drew | refine Below.trans ?_ (Below.mono (by assumption) (by first | (simp; done) | (simp; omega) | omega)))⟩

set_option maxHeartbeats 4000000 in
theorem refWithin_any (t sp : Int) (A : Option Addr) (len cap : Nat) (S : Nat → ByteArray) (s a n : Int) (hp : okP t sp len S) (hs : s = 0 ∨ s = 1) (w : World) :
    Calls Try.prog 33 #[.agg #[.int .i64 t, .int .i64 sp, .slice A len cap], .int .i64 s, .int .i64 a, .int .i64 n] w fun e w' => e = .returned (.bool (witB t sp len S s a n)) ∧ Below w.heap.size w w' := by
  have c1 := hide (fun W => refBase_any t sp s (.slice A len cap) hp.1 hp.2.1 hs ⟨_, _, _, rfl⟩ W)
  have hb := bas_le hp.1 hp.2.1 hs
  have hsp := hp.2.1
  have hw := hide (show wit t sp len S s a n ↔ 0 ≤ n ∧ n ≤ sp ∧ bas t sp s ≤ a ∧ a - bas t sp s ≤ sp - n from ⟨fun h => h.2.2, fun h => ⟨hp, hs, h⟩⟩)
  clear hp hs
  generalize bas t sp s = B at c1 hb hw
  obtain ⟨hb1, hb2⟩ := hb
  obtain ⟨hs1, hs2⟩ := hsp
  by_cases h3 : B ≤ a
  · by_cases h1 : 0 ≤ n
    · by_cases h2 : n ≤ sp
      · have hr : Hid (witB t sp len S s a n = decide (a ≤ B + sp - n)) := hide (by rw [Bool.eq_iff_iff, witB_iff, unhide hw]; simp; omega)
        go_enter Try.func33, Try.ntmps33
        go_wp2_with fail
        refine (unhide c1 _).mono ?_
        rintro e w2 ⟨rfl, hw2⟩; obtain ⟨hcw2, hfw2⟩ := bcell hw2; (try (simp only [World.size_drew, World.cell?_drew, World.frozen?_drew] at hcw2 hfw2)); have hzw2 := hw2.size; (try (simp only [World.size_alloc, World.size_setCell, World.size_drew] at hzw2)); (try (have hzw2_w_0 : w.heap.size < w2.heap.size := by omega)); (try (have hzw2_w_1 : w.heap.size + 1 < w2.heap.size := by omega)); (try (have hzw2_w_2 : w.heap.size + 1 + 1 < w2.heap.size := by omega)); (try (have hzw2_w_3 : w.heap.size + 1 + 1 + 1 < w2.heap.size := by omega)); (try (have hyw2_w : w.heap.size ≤ w2.heap.size := by omega)); (try (have hyw2_wa : w.heap.size + 1 ≤ w2.heap.size := by omega))
        go_wp2
        go_ret
        exact ⟨ret_bool (by rw [unhide hr]), by repeat (first | exact Below.refl _ _ | assumption | refine Below.alloc ?_ (by first | (simp; done) | (simp; omega) | omega) _ | refine Below.setCell ?_ (by first | (simp; done) | (simp; omega) | omega) _ | apply Below.drew | refine Below.trans ?_ (Below.mono (by assumption) (by first | (simp; done) | (simp; omega) | omega)))⟩
      · have hr : Hid (witB t sp len S s a n = false) := hide (witB_no (fun h => by have := (unhide hw).1 h; omega))
        go_enter Try.func33, Try.ntmps33
        go_wp2_with fail
        refine (unhide c1 _).mono ?_
        rintro e w2 ⟨rfl, hw2⟩; obtain ⟨hcw2, hfw2⟩ := bcell hw2; (try (simp only [World.size_drew, World.cell?_drew, World.frozen?_drew] at hcw2 hfw2)); have hzw2 := hw2.size; (try (simp only [World.size_alloc, World.size_setCell, World.size_drew] at hzw2)); (try (have hzw2_w_0 : w.heap.size < w2.heap.size := by omega)); (try (have hzw2_w_1 : w.heap.size + 1 < w2.heap.size := by omega)); (try (have hzw2_w_2 : w.heap.size + 1 + 1 < w2.heap.size := by omega)); (try (have hzw2_w_3 : w.heap.size + 1 + 1 + 1 < w2.heap.size := by omega)); (try (have hyw2_w : w.heap.size ≤ w2.heap.size := by omega)); (try (have hyw2_wa : w.heap.size + 1 ≤ w2.heap.size := by omega))
        go_wp2
        go_ret
        exact ⟨ret_bool (by rw [unhide hr]), by repeat (first | exact Below.refl _ _ | assumption | refine Below.alloc ?_ (by first | (simp; done) | (simp; omega) | omega) _ | refine Below.setCell ?_ (by first | (simp; done) | (simp; omega) | omega) _ | apply Below.drew | refine Below.trans ?_ (Below.mono (by assumption) (by first | (simp; done) | (simp; omega) | omega)))⟩
    · have hr : Hid (witB t sp len S s a n = false) := hide (witB_no (fun h => by have := (unhide hw).1 h; omega))
      go_enter Try.func33, Try.ntmps33
      go_wp2_with fail
      refine (unhide c1 _).mono ?_
      rintro e w2 ⟨rfl, hw2⟩; obtain ⟨hcw2, hfw2⟩ := bcell hw2; (try (simp only [World.size_drew, World.cell?_drew, World.frozen?_drew] at hcw2 hfw2)); have hzw2 := hw2.size; (try (simp only [World.size_alloc, World.size_setCell, World.size_drew] at hzw2)); (try (have hzw2_w_0 : w.heap.size < w2.heap.size := by omega)); (try (have hzw2_w_1 : w.heap.size + 1 < w2.heap.size := by omega)); (try (have hzw2_w_2 : w.heap.size + 1 + 1 < w2.heap.size := by omega)); (try (have hzw2_w_3 : w.heap.size + 1 + 1 + 1 < w2.heap.size := by omega)); (try (have hyw2_w : w.heap.size ≤ w2.heap.size := by omega)); (try (have hyw2_wa : w.heap.size + 1 ≤ w2.heap.size := by omega))
      go_wp2
      go_ret
      exact ⟨ret_bool (by rw [unhide hr]), by repeat (first | exact Below.refl _ _ | assumption | refine Below.alloc ?_ (by first | (simp; done) | (simp; omega) | omega) _ | refine Below.setCell ?_ (by first | (simp; done) | (simp; omega) | omega) _ | apply Below.drew | refine Below.trans ?_ (Below.mono (by assumption) (by first | (simp; done) | (simp; omega) | omega)))⟩
  · have hr : Hid (witB t sp len S s a n = false) := hide (witB_no (fun h => by have := (unhide hw).1 h; omega))
    go_enter Try.func33, Try.ntmps33
    go_wp2_with fail
    refine (unhide c1 _).mono ?_
    rintro e w2 ⟨rfl, hw2⟩; obtain ⟨hcw2, hfw2⟩ := bcell hw2; (try (simp only [World.size_drew, World.cell?_drew, World.frozen?_drew] at hcw2 hfw2)); have hzw2 := hw2.size; (try (simp only [World.size_alloc, World.size_setCell, World.size_drew] at hzw2)); (try (have hzw2_w_0 : w.heap.size < w2.heap.size := by omega)); (try (have hzw2_w_1 : w.heap.size + 1 < w2.heap.size := by omega)); (try (have hzw2_w_2 : w.heap.size + 1 + 1 < w2.heap.size := by omega)); (try (have hzw2_w_3 : w.heap.size + 1 + 1 + 1 < w2.heap.size := by omega)); (try (have hyw2_w : w.heap.size ≤ w2.heap.size := by omega)); (try (have hyw2_wa : w.heap.size + 1 ≤ w2.heap.size := by omega))
    go_wp2
    go_ret
    exact ⟨ret_bool (by rw [unhide hr]), by repeat (first | exact Below.refl _ _ | assumption | refine Below.alloc ?_ (by first | (simp; done) | (simp; omega) | omega) _ | refine Below.setCell ?_ (by first | (simp; done) | (simp; omega) | omega) _ | apply Below.drew | refine Below.trans ?_ (Below.mono (by assumption) (by first | (simp; done) | (simp; omega) | omega)))⟩

set_option maxHeartbeats 4000000 in
theorem lentRight_any (t sp : Int) (A : Option Addr) (len cap : Nat) (S : Nat → ByteArray) (hlen : len ≤ 1000) (hS : ∀ i, i < len → (S i).size ≤ 100) (s a l : Int) (ha : a ≤ 9223372036854775807) (w : World) (H : ShOk w A len S) :
    Calls Try.prog 23 #[.agg #[.int .i64 s, .int .i64 a, .int .i64 l, .int .i64 t, .int .i64 sp, .slice A len cap]] w fun e w' => e = .returned (.bool (rgtB t sp len S s a l)) ∧ Below w.heap.size w w' := by
  have c1 := hide (fun W (hW : Below w.heap.size w W) => layBase_any t sp s A len cap S hlen hS W (H.keep hW))
  have c2 := hide (fun W (hW : Below w.heap.size w W) => within_any t sp A len cap S hlen hS s a l a l ha W (H.keep hW))
  clear H hS
  by_cases hp : okP t sp len S ∧ (s = 0 ∨ s = 1)
  · have ev : basV t sp s len S = bas t sp s := by unfold basV; rw [if_pos ⟨okPB_iff.2 hp.1, hp.2⟩]
    have ee : basE t sp s len S = 0 := by unfold basE; rw [if_pos (okPB_iff.2 hp.1), if_pos hp.2]
    rw [ev, ee] at c1
    generalize bas t sp s = B at c1
    clear ev ee
    by_cases h1 : l < 0
    · have hr : Hid (rgtB t sp len S s a l = false) := hide (rgtB_no (fun h => by have := h.2.2.1; omega))
      go_enter Try.func23, Try.ntmps23
      go_wp2_with fail
      refine (unhide c1 _ (by repeat (first | exact Below.refl _ _ | assumption | refine Below.alloc ?_ (by first | (simp; done) | (simp; omega) | omega) _ | refine Below.setCell ?_ (by first | (simp; done) | (simp; omega) | omega) _ | apply Below.drew | refine Below.trans ?_ (Below.mono (by assumption) (by first | (simp; done) | (simp; omega) | omega))))).mono ?_
      rintro e w2 ⟨rfl, hw2⟩; obtain ⟨hcw2, hfw2⟩ := bcell hw2; (try (simp only [World.size_drew, World.cell?_drew, World.frozen?_drew] at hcw2 hfw2)); have hzw2 := hw2.size; (try (simp only [World.size_alloc, World.size_setCell, World.size_drew] at hzw2)); (try (have hzw2_w_0 : w.heap.size < w2.heap.size := by omega)); (try (have hzw2_w_1 : w.heap.size + 1 < w2.heap.size := by omega)); (try (have hzw2_w_2 : w.heap.size + 1 + 1 < w2.heap.size := by omega)); (try (have hzw2_w_3 : w.heap.size + 1 + 1 + 1 < w2.heap.size := by omega)); (try (have hyw2_w : w.heap.size ≤ w2.heap.size := by omega)); (try (have hyw2_wa : w.heap.size + 1 ≤ w2.heap.size := by omega))
      go_wp2
      go_ret
      exact ⟨ret_bool (by rw [unhide hr]), by repeat (first | exact Below.refl _ _ | assumption | refine Below.alloc ?_ (by first | (simp; done) | (simp; omega) | omega) _ | refine Below.setCell ?_ (by first | (simp; done) | (simp; omega) | omega) _ | apply Below.drew | refine Below.trans ?_ (Below.mono (by assumption) (by first | (simp; done) | (simp; omega) | omega)))⟩
    by_cases h2 : l = 0
    · by_cases h3 : a = 0
      · have hr : Hid (rgtB t sp len S s a l = true) := hide (rgtB_iff.2 ⟨hp.1, hp.2, by omega, fun _ => h3, fun h => absurd h2 h⟩)
        have hl0 : (l == 0) = true := by simpa using h2
        have ha0 : (a == 0) = true := by simpa using h3
        subst h2 h3
        clear hp c2
        go_enter Try.func23, Try.ntmps23
        go_wp2_with fail
        refine (unhide c1 _ (by repeat (first | exact Below.refl _ _ | assumption | refine Below.alloc ?_ (by first | (simp; done) | (simp; omega) | omega) _ | refine Below.setCell ?_ (by first | (simp; done) | (simp; omega) | omega) _ | apply Below.drew | refine Below.trans ?_ (Below.mono (by assumption) (by first | (simp; done) | (simp; omega) | omega))))).mono ?_
        rintro e w2 ⟨rfl, hw2⟩; obtain ⟨hcw2, hfw2⟩ := bcell hw2; (try (simp only [World.size_drew, World.cell?_drew, World.frozen?_drew] at hcw2 hfw2)); have hzw2 := hw2.size; (try (simp only [World.size_alloc, World.size_setCell, World.size_drew] at hzw2)); (try (have hzw2_w_0 : w.heap.size < w2.heap.size := by omega)); (try (have hzw2_w_1 : w.heap.size + 1 < w2.heap.size := by omega)); (try (have hzw2_w_2 : w.heap.size + 1 + 1 < w2.heap.size := by omega)); (try (have hzw2_w_3 : w.heap.size + 1 + 1 + 1 < w2.heap.size := by omega)); (try (have hyw2_w : w.heap.size ≤ w2.heap.size := by omega)); (try (have hyw2_wa : w.heap.size + 1 ≤ w2.heap.size := by omega))
        go_wp2
        go_ret
        exact ⟨ret_bool (by rw [unhide hr]), by repeat (first | exact Below.refl _ _ | assumption | refine Below.alloc ?_ (by first | (simp; done) | (simp; omega) | omega) _ | refine Below.setCell ?_ (by first | (simp; done) | (simp; omega) | omega) _ | apply Below.drew | refine Below.trans ?_ (Below.mono (by assumption) (by first | (simp; done) | (simp; omega) | omega)))⟩
      · have hr : Hid (rgtB t sp len S s a l = false) := hide (rgtB_no (fun h => h3 (h.2.2.2.1 h2)))
        have ha0 : (a == 0) = false := by simpa using h3
        subst h2
        clear hp c2
        go_enter Try.func23, Try.ntmps23
        go_wp2_with fail
        refine (unhide c1 _ (by repeat (first | exact Below.refl _ _ | assumption | refine Below.alloc ?_ (by first | (simp; done) | (simp; omega) | omega) _ | refine Below.setCell ?_ (by first | (simp; done) | (simp; omega) | omega) _ | apply Below.drew | refine Below.trans ?_ (Below.mono (by assumption) (by first | (simp; done) | (simp; omega) | omega))))).mono ?_
        rintro e w2 ⟨rfl, hw2⟩; obtain ⟨hcw2, hfw2⟩ := bcell hw2; (try (simp only [World.size_drew, World.cell?_drew, World.frozen?_drew] at hcw2 hfw2)); have hzw2 := hw2.size; (try (simp only [World.size_alloc, World.size_setCell, World.size_drew] at hzw2)); (try (have hzw2_w_0 : w.heap.size < w2.heap.size := by omega)); (try (have hzw2_w_1 : w.heap.size + 1 < w2.heap.size := by omega)); (try (have hzw2_w_2 : w.heap.size + 1 + 1 < w2.heap.size := by omega)); (try (have hzw2_w_3 : w.heap.size + 1 + 1 + 1 < w2.heap.size := by omega)); (try (have hyw2_w : w.heap.size ≤ w2.heap.size := by omega)); (try (have hyw2_wa : w.heap.size + 1 ≤ w2.heap.size := by omega))
        go_wp2
        go_ret
        exact ⟨ret_bool (by rw [unhide hr]), by repeat (first | exact Below.refl _ _ | assumption | refine Below.alloc ?_ (by first | (simp; done) | (simp; omega) | omega) _ | refine Below.setCell ?_ (by first | (simp; done) | (simp; omega) | omega) _ | apply Below.drew | refine Below.trans ?_ (Below.mono (by assumption) (by first | (simp; done) | (simp; omega) | omega)))⟩
    · have hr : Hid (rgtB t sp len S s a l = witB t sp len S s a l) := hide (by
        rw [Bool.eq_iff_iff, witB_iff, rgtB_iff]
        exact ⟨fun h => h.2.2.2.2 h2, fun h => ⟨hp.1, hp.2, by omega, fun h0 => absurd h0 h2, fun _ => h⟩⟩)
      have hl0 : (l == 0) = false := by simpa using h2
      generalize witB t sp len S s a l = R at c2 hr
      clear hp
      go_enter Try.func23, Try.ntmps23
      go_wp2_with fail
      refine (unhide c1 _ (by repeat (first | exact Below.refl _ _ | assumption | refine Below.alloc ?_ (by first | (simp; done) | (simp; omega) | omega) _ | refine Below.setCell ?_ (by first | (simp; done) | (simp; omega) | omega) _ | apply Below.drew | refine Below.trans ?_ (Below.mono (by assumption) (by first | (simp; done) | (simp; omega) | omega))))).mono ?_
      rintro e w2 ⟨rfl, hw2⟩; obtain ⟨hcw2, hfw2⟩ := bcell hw2; (try (simp only [World.size_drew, World.cell?_drew, World.frozen?_drew] at hcw2 hfw2)); have hzw2 := hw2.size; (try (simp only [World.size_alloc, World.size_setCell, World.size_drew] at hzw2)); (try (have hzw2_w_0 : w.heap.size < w2.heap.size := by omega)); (try (have hzw2_w_1 : w.heap.size + 1 < w2.heap.size := by omega)); (try (have hzw2_w_2 : w.heap.size + 1 + 1 < w2.heap.size := by omega)); (try (have hzw2_w_3 : w.heap.size + 1 + 1 + 1 < w2.heap.size := by omega)); (try (have hyw2_w : w.heap.size ≤ w2.heap.size := by omega)); (try (have hyw2_wa : w.heap.size + 1 ≤ w2.heap.size := by omega))
      have B2 : Below w.heap.size w w2 := by repeat (first | exact Below.refl _ _ | assumption | refine Below.alloc ?_ (by first | (simp; done) | (simp; omega) | omega) _ | refine Below.setCell ?_ (by first | (simp; done) | (simp; omega) | omega) _ | apply Below.drew | refine Below.trans ?_ (Below.mono (by assumption) (by first | (simp; done) | (simp; omega) | omega)))
      go_wp2_with fail
      refine (unhide c2 _ B2).mono ?_
      rintro e w3 ⟨rfl, hw3⟩
      have hz3 := hw3.size
      go_wp2
      go_ret
      exact ⟨ret_bool (by rw [unhide hr]), B2.trans (hw3.mono B2.size)⟩
  · have hr : Hid (rgtB t sp len S s a l = false) := hide (rgtB_no (fun h => hp ⟨h.1, h.2.1⟩))
    have hE : (basE t sp s len S != 0) = true := by
      unfold basE
      split
      · rw [if_neg (fun h => hp ⟨okPB_iff.1 (by assumption), h⟩)]; rfl
      · rfl
    generalize basE t sp s len S = E at c1 hE
    generalize basV t sp s len S = V at c1
    clear hp
    go_enter Try.func23, Try.ntmps23
    go_wp2_with fail
    refine (unhide c1 _ (by repeat (first | exact Below.refl _ _ | assumption | refine Below.alloc ?_ (by first | (simp; done) | (simp; omega) | omega) _ | refine Below.setCell ?_ (by first | (simp; done) | (simp; omega) | omega) _ | apply Below.drew | refine Below.trans ?_ (Below.mono (by assumption) (by first | (simp; done) | (simp; omega) | omega))))).mono ?_
    rintro e w2 ⟨rfl, hw2⟩; obtain ⟨hcw2, hfw2⟩ := bcell hw2; (try (simp only [World.size_drew, World.cell?_drew, World.frozen?_drew] at hcw2 hfw2)); have hzw2 := hw2.size; (try (simp only [World.size_alloc, World.size_setCell, World.size_drew] at hzw2)); (try (have hzw2_w_0 : w.heap.size < w2.heap.size := by omega)); (try (have hzw2_w_1 : w.heap.size + 1 < w2.heap.size := by omega)); (try (have hzw2_w_2 : w.heap.size + 1 + 1 < w2.heap.size := by omega)); (try (have hzw2_w_3 : w.heap.size + 1 + 1 + 1 < w2.heap.size := by omega)); (try (have hyw2_w : w.heap.size ≤ w2.heap.size := by omega)); (try (have hyw2_wa : w.heap.size + 1 ≤ w2.heap.size := by omega))
    go_wp2
    go_ret
    exact ⟨ret_bool (by rw [unhide hr]), by repeat (first | exact Below.refl _ _ | assumption | refine Below.alloc ?_ (by first | (simp; done) | (simp; omega) | omega) _ | refine Below.setCell ?_ (by first | (simp; done) | (simp; omega) | omega) _ | apply Below.drew | refine Below.trans ?_ (Below.mono (by assumption) (by first | (simp; done) | (simp; omega) | omega)))⟩
end Go.Proofs.Ytkmoefijncjlhaa
