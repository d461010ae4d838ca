/- The walks of package arena: an access that is none, that may not be, that is out of range; all accesses. -/
import Derived.Test.YtnnllhlcpmmcaaaArD
import Derived.Test.YtnnllhlcpmmcaaaArC1
import Derived.Test.YtnnllhlcpmmcaaaArC2
import Derived.Test.YtnnllhlcpmmcaaaArC3
import Derived.Test.YtnnllhlcpmmcaaaArC4
namespace Go.Proofs.Ytnnllhlcpmmcaaa
set_option linter.unusedVariables false
set_option linter.unusedSimpArgs false
open Go.RowKit

set_option maxHeartbeats 4000000 in
theorem do_bad (g h n : Nat) (xs : Nat → Int) (k a o v : Int) (hb : accB k a o v = false) (w : World) (H : IsAr w g h n xs) :
    Calls Try.prog 24 #[.pointer (some ⟨g, 0, none⟩), .agg #[.int .i64 k, .int .i64 a, .int .u64 o, .int .u64 v]] w fun e w' => e = .returned (.tuple #[.int .u64 0, .int .i64 2]) ∧ ArTo w w' g h n xs := by
  have HH := hide H
  have hq : Hid (chkE k a o v = 2) := by unfold Hid; simp [chkE, hb]
  clear hb H
  go_enter Try.func24, Try.ntmps24
  go_wp2_with fail
  have c := check_any k a o v
  rw [hq.out] at c
  (refine (c _).mono ?_); rintro e w1 ⟨rfl, hw1⟩; obtain ⟨hcw1, hfw1⟩ := bcell hw1; (try (simp only [World.size_drew, World.cell?_drew, World.frozen?_drew] at hcw1 hfw1)); have hzw1 := hw1.size; (try (simp only [World.size_alloc, World.size_setCell, World.size_drew] at hzw1)); (try (have hzw1_w_0 : w.heap.size < w1.heap.size := by omega)); (try (have hzw1_w_1 : w.heap.size + 1 < w1.heap.size := by omega)); (try (have hzw1_w_2 : w.heap.size + 1 + 1 < w1.heap.size := by omega)); (try (have hzw1_w_3 : w.heap.size + 1 + 1 + 1 < w1.heap.size := by omega)); (try (have hyw1_w : w.heap.size ≤ w1.heap.size := by omega)); (try (have hyw1_wa : w.heap.size + 1 ≤ w1.heap.size := by omega))
  clear c
  go_wp2_with fail
  have H1 : IsAr w1 g h n xs := (unhide HH).keep (by repeat (first | exact Below.refl _ _ | assumption | refine Below.alloc ?_ (by first | (simp; done) | (simp; omega) | omega) _ | refine Below.setCell ?_ (by first | (simp; done) | (simp; omega) | omega) _ | apply Below.drew | refine Below.trans ?_ (Below.mono (by assumption) (by first | (simp; done) | (simp; omega) | omega))))
  (refine (none_any g h n xs _ H1).mono ?_); rintro e w2 ⟨rfl, hw2⟩; obtain ⟨hcw2, hfw2⟩ := bcell hw2; (try (simp only [World.size_drew, World.cell?_drew, World.frozen?_drew] at hcw2 hfw2)); have hzw2 := hw2.size; (try (simp only [World.size_alloc, World.size_setCell, World.size_drew] at hzw2)); (try (have hzw2_w_0 : w.heap.size < w2.heap.size := by omega)); (try (have hzw2_w_1 : w.heap.size + 1 < w2.heap.size := by omega)); (try (have hzw2_w_2 : w.heap.size + 1 + 1 < w2.heap.size := by omega)); (try (have hzw2_w_3 : w.heap.size + 1 + 1 + 1 < w2.heap.size := by omega)); (try (have hyw2_w : w.heap.size ≤ w2.heap.size := by omega)); (try (have hyw2_wa : w.heap.size + 1 ≤ w2.heap.size := by omega)); (try (have hzw2_w1_0 : w1.heap.size < w2.heap.size := by omega)); (try (have hzw2_w1_1 : w1.heap.size + 1 < w2.heap.size := by omega)); (try (have hzw2_w1_2 : w1.heap.size + 1 + 1 < w2.heap.size := by omega)); (try (have hzw2_w1_3 : w1.heap.size + 1 + 1 + 1 < w2.heap.size := by omega)); (try (have hyw2_w1 : w1.heap.size ≤ w2.heap.size := by omega)); (try (have hyw2_w1a : w1.heap.size + 1 ≤ w2.heap.size := by omega))
  clear H1
  go_wp2
  go_ret2
  exact ⟨rfl, ArTo.same (unhide HH) (by repeat (first | exact Below.refl _ _ | assumption | refine Below.alloc ?_ (by first | (simp; done) | (simp; omega) | omega) _ | refine Below.setCell ?_ (by first | (simp; done) | (simp; omega) | omega) _ | apply Below.drew | refine Below.trans ?_ (Below.mono (by assumption) (by first | (simp; done) | (simp; omega) | omega))))⟩

set_option maxHeartbeats 4000000 in
theorem do_none (g h n : Nat) (xs : Nat → Int) (w : World) (H : IsAr w g h n xs) :
    Calls Try.prog 24 #[.pointer (some ⟨g, 0, none⟩), .agg #[.int .i64 0, .int .i64 0, .int .u64 0, .int .u64 0]] w fun e w' => e = .returned (.tuple #[.int .u64 0, .int .i64 0]) ∧ ArTo w w' g h n xs := by
  have HH := hide H
  have hq : Hid (chkE 0 0 0 0 = 0) := by unfold Hid; decide
  clear H
  go_enter Try.func24, Try.ntmps24
  go_wp2_with fail
  have c := check_any 0 0 0 0
  rw [hq.out] at c
  (refine (c _).mono ?_); rintro e w1 ⟨rfl, hw1⟩; obtain ⟨hcw1, hfw1⟩ := bcell hw1; (try (simp only [World.size_drew, World.cell?_drew, World.frozen?_drew] at hcw1 hfw1)); have hzw1 := hw1.size; (try (simp only [World.size_alloc, World.size_setCell, World.size_drew] at hzw1)); (try (have hzw1_w_0 : w.heap.size < w1.heap.size := by omega)); (try (have hzw1_w_1 : w.heap.size + 1 < w1.heap.size := by omega)); (try (have hzw1_w_2 : w.heap.size + 1 + 1 < w1.heap.size := by omega)); (try (have hzw1_w_3 : w.heap.size + 1 + 1 + 1 < w1.heap.size := by omega)); (try (have hyw1_w : w.heap.size ≤ w1.heap.size := by omega)); (try (have hyw1_wa : w.heap.size + 1 ≤ w1.heap.size := by omega))
  clear c
  go_wp2_with fail
  have H1 : IsAr w1 g h n xs := (unhide HH).keep (by repeat (first | exact Below.refl _ _ | assumption | refine Below.alloc ?_ (by first | (simp; done) | (simp; omega) | omega) _ | refine Below.setCell ?_ (by first | (simp; done) | (simp; omega) | omega) _ | apply Below.drew | refine Below.trans ?_ (Below.mono (by assumption) (by first | (simp; done) | (simp; omega) | omega))))
  (refine (none_any g h n xs _ H1).mono ?_); rintro e w2 ⟨rfl, hw2⟩; obtain ⟨hcw2, hfw2⟩ := bcell hw2; (try (simp only [World.size_drew, World.cell?_drew, World.frozen?_drew] at hcw2 hfw2)); have hzw2 := hw2.size; (try (simp only [World.size_alloc, World.size_setCell, World.size_drew] at hzw2)); (try (have hzw2_w_0 : w.heap.size < w2.heap.size := by omega)); (try (have hzw2_w_1 : w.heap.size + 1 < w2.heap.size := by omega)); (try (have hzw2_w_2 : w.heap.size + 1 + 1 < w2.heap.size := by omega)); (try (have hzw2_w_3 : w.heap.size + 1 + 1 + 1 < w2.heap.size := by omega)); (try (have hyw2_w : w.heap.size ≤ w2.heap.size := by omega)); (try (have hyw2_wa : w.heap.size + 1 ≤ w2.heap.size := by omega)); (try (have hzw2_w1_0 : w1.heap.size < w2.heap.size := by omega)); (try (have hzw2_w1_1 : w1.heap.size + 1 < w2.heap.size := by omega)); (try (have hzw2_w1_2 : w1.heap.size + 1 + 1 < w2.heap.size := by omega)); (try (have hzw2_w1_3 : w1.heap.size + 1 + 1 + 1 < w2.heap.size := by omega)); (try (have hyw2_w1 : w1.heap.size ≤ w2.heap.size := by omega)); (try (have hyw2_w1a : w1.heap.size + 1 ≤ w2.heap.size := by omega))
  clear H1
  go_wp2
  go_ret2
  exact ⟨rfl, ArTo.same (unhide HH) (by repeat (first | exact Below.refl _ _ | assumption | refine Below.alloc ?_ (by first | (simp; done) | (simp; omega) | omega) _ | refine Below.setCell ?_ (by first | (simp; done) | (simp; omega) | omega) _ | apply Below.drew | refine Below.trans ?_ (Below.mono (by assumption) (by first | (simp; done) | (simp; omega) | omega))))⟩

set_option maxHeartbeats 8000000 in
theorem do_range (g h n : Nat) (xs : Nat → Int) (k a o v : Int) (hb : accB k a o v = true) (hk : k ≠ 0) (hr : a < 0 ∨ (n : Int) ≤ a) (w : World) (H : IsAr w g h n xs) :
    Calls Try.prog 24 #[.pointer (some ⟨g, 0, none⟩), .agg #[.int .i64 k, .int .i64 a, .int .u64 o, .int .u64 v]] w fun e w' => e = .returned (.tuple #[.int .u64 0, .int .i64 4]) ∧ ArTo w w' g h n xs := by
  have HH := hide H
  have hq : Hid (chkE k a o v = 0) := by unfold Hid; simp [chkE, hb]
  have hk2 : (k == 0) = false := by simpa using hk
  obtain ⟨h1, h2, h3, h4, h5, h6⟩ := H
  have h21 : g ≤ w.heap.size := Nat.le_of_lt h2
  clear hb h6 hk
  by_cases ha : a < 0
  · clear hr
    go_enter Try.func24, Try.ntmps24
    go_wp2_with fail
    have c := check_any k a o v
    rw [hq.out] at c
    (refine (c _).mono ?_); rintro e w1 ⟨rfl, hw1⟩; obtain ⟨hcw1, hfw1⟩ := bcell hw1; (try (simp only [World.size_drew, World.cell?_drew, World.frozen?_drew] at hcw1 hfw1)); have hzw1 := hw1.size; (try (simp only [World.size_alloc, World.size_setCell, World.size_drew] at hzw1)); (try (have hzw1_w_0 : w.heap.size < w1.heap.size := by omega)); (try (have hzw1_w_1 : w.heap.size + 1 < w1.heap.size := by omega)); (try (have hzw1_w_2 : w.heap.size + 1 + 1 < w1.heap.size := by omega)); (try (have hzw1_w_3 : w.heap.size + 1 + 1 + 1 < w1.heap.size := by omega)); (try (have hyw1_w : w.heap.size ≤ w1.heap.size := by omega)); (try (have hyw1_wa : w.heap.size + 1 ≤ w1.heap.size := by omega))
    clear c
    (have hbw1 : g < w1.heap.size := by omega); (have hblw1 : g ≤ w1.heap.size := by omega)
    go_wp2_with fail
    have H1 : IsAr w1 g h n xs := (unhide HH).keep (by repeat (first | exact Below.refl _ _ | assumption | refine Below.alloc ?_ (by first | (simp; done) | (simp; omega) | omega) _ | refine Below.setCell ?_ (by first | (simp; done) | (simp; omega) | omega) _ | apply Below.drew | refine Below.trans ?_ (Below.mono (by assumption) (by first | (simp; done) | (simp; omega) | omega))))
    (refine (none_any g h n xs _ H1).mono ?_); rintro e w2 ⟨rfl, hw2⟩; obtain ⟨hcw2, hfw2⟩ := bcell hw2; (try (simp only [World.size_drew, World.cell?_drew, World.frozen?_drew] at hcw2 hfw2)); have hzw2 := hw2.size; (try (simp only [World.size_alloc, World.size_setCell, World.size_drew] at hzw2)); (try (have hzw2_w_0 : w.heap.size < w2.heap.size := by omega)); (try (have hzw2_w_1 : w.heap.size + 1 < w2.heap.size := by omega)); (try (have hzw2_w_2 : w.heap.size + 1 + 1 < w2.heap.size := by omega)); (try (have hzw2_w_3 : w.heap.size + 1 + 1 + 1 < w2.heap.size := by omega)); (try (have hyw2_w : w.heap.size ≤ w2.heap.size := by omega)); (try (have hyw2_wa : w.heap.size + 1 ≤ w2.heap.size := by omega)); (try (have hzw2_w1_0 : w1.heap.size < w2.heap.size := by omega)); (try (have hzw2_w1_1 : w1.heap.size + 1 < w2.heap.size := by omega)); (try (have hzw2_w1_2 : w1.heap.size + 1 + 1 < w2.heap.size := by omega)); (try (have hzw2_w1_3 : w1.heap.size + 1 + 1 + 1 < w2.heap.size := by omega)); (try (have hyw2_w1 : w1.heap.size ≤ w2.heap.size := by omega)); (try (have hyw2_w1a : w1.heap.size + 1 ≤ w2.heap.size := by omega))
    (have hbw2 : g < w2.heap.size := by omega); (have hblw2 : g ≤ w2.heap.size := by omega)
    clear H1
    go_wp2
    have f0 : w2.cell? ⟨w.heap.size, 0, none⟩ = some (.int .i64 k) := by go_simp
    have f1 : w2.cell? ⟨w.heap.size, 1, none⟩ = some (.int .i64 a) := by go_simp
    have fg : w2.cell? ⟨g, 0, none⟩ = some (.slice (some ⟨h, 0, none⟩) n n) := by go_simp
    have B2 : Below w.heap.size w w2 := by repeat (first | exact Below.refl _ _ | assumption | refine Below.alloc ?_ (by first | (simp; done) | (simp; omega) | omega) _ | refine Below.setCell ?_ (by first | (simp; done) | (simp; omega) | omega) _ | apply Below.drew | refine Below.trans ?_ (Below.mono (by assumption) (by first | (simp; done) | (simp; omega) | omega)))
    clear hcw1 hfw1 hcw2 hfw2 h1
    go_region
    all_goals
      go_wp2
      go_ret2
      exact ⟨rfl, ArTo.same (unhide HH) (by repeat (first | exact Below.refl _ _ | assumption | refine Below.alloc ?_ (by first | (simp; done) | (simp; omega) | omega) _ | refine Below.setCell ?_ (by first | (simp; done) | (simp; omega) | omega) _ | apply Below.drew | refine Below.trans ?_ (Below.mono (by assumption) (by first | (simp; done) | (simp; omega) | omega))))⟩
  · have hge : (n : Int) ≤ a := by omega
    have hd : decide (a < 0) = false := by simpa using ha
    clear hr
    go_enter Try.func24, Try.ntmps24
    go_wp2_with fail
    have c := check_any k a o v
    rw [hq.out] at c
    (refine (c _).mono ?_); rintro e w1 ⟨rfl, hw1⟩; obtain ⟨hcw1, hfw1⟩ := bcell hw1; (try (simp only [World.size_drew, World.cell?_drew, World.frozen?_drew] at hcw1 hfw1)); have hzw1 := hw1.size; (try (simp only [World.size_alloc, World.size_setCell, World.size_drew] at hzw1)); (try (have hzw1_w_0 : w.heap.size < w1.heap.size := by omega)); (try (have hzw1_w_1 : w.heap.size + 1 < w1.heap.size := by omega)); (try (have hzw1_w_2 : w.heap.size + 1 + 1 < w1.heap.size := by omega)); (try (have hzw1_w_3 : w.heap.size + 1 + 1 + 1 < w1.heap.size := by omega)); (try (have hyw1_w : w.heap.size ≤ w1.heap.size := by omega)); (try (have hyw1_wa : w.heap.size + 1 ≤ w1.heap.size := by omega))
    clear c
    (have hbw1 : g < w1.heap.size := by omega); (have hblw1 : g ≤ w1.heap.size := by omega)
    go_wp2_with fail
    have H1 : IsAr w1 g h n xs := (unhide HH).keep (by repeat (first | exact Below.refl _ _ | assumption | refine Below.alloc ?_ (by first | (simp; done) | (simp; omega) | omega) _ | refine Below.setCell ?_ (by first | (simp; done) | (simp; omega) | omega) _ | apply Below.drew | refine Below.trans ?_ (Below.mono (by assumption) (by first | (simp; done) | (simp; omega) | omega))))
    (refine (none_any g h n xs _ H1).mono ?_); rintro e w2 ⟨rfl, hw2⟩; obtain ⟨hcw2, hfw2⟩ := bcell hw2; (try (simp only [World.size_drew, World.cell?_drew, World.frozen?_drew] at hcw2 hfw2)); have hzw2 := hw2.size; (try (simp only [World.size_alloc, World.size_setCell, World.size_drew] at hzw2)); (try (have hzw2_w_0 : w.heap.size < w2.heap.size := by omega)); (try (have hzw2_w_1 : w.heap.size + 1 < w2.heap.size := by omega)); (try (have hzw2_w_2 : w.heap.size + 1 + 1 < w2.heap.size := by omega)); (try (have hzw2_w_3 : w.heap.size + 1 + 1 + 1 < w2.heap.size := by omega)); (try (have hyw2_w : w.heap.size ≤ w2.heap.size := by omega)); (try (have hyw2_wa : w.heap.size + 1 ≤ w2.heap.size := by omega)); (try (have hzw2_w1_0 : w1.heap.size < w2.heap.size := by omega)); (try (have hzw2_w1_1 : w1.heap.size + 1 < w2.heap.size := by omega)); (try (have hzw2_w1_2 : w1.heap.size + 1 + 1 < w2.heap.size := by omega)); (try (have hzw2_w1_3 : w1.heap.size + 1 + 1 + 1 < w2.heap.size := by omega)); (try (have hyw2_w1 : w1.heap.size ≤ w2.heap.size := by omega)); (try (have hyw2_w1a : w1.heap.size + 1 ≤ w2.heap.size := by omega))
    (have hbw2 : g < w2.heap.size := by omega); (have hblw2 : g ≤ w2.heap.size := by omega)
    clear H1
    go_wp2
    have f0 : w2.cell? ⟨w.heap.size, 0, none⟩ = some (.int .i64 k) := by go_simp
    have f1 : w2.cell? ⟨w.heap.size, 1, none⟩ = some (.int .i64 a) := by go_simp
    have fg : w2.cell? ⟨g, 0, none⟩ = some (.slice (some ⟨h, 0, none⟩) n n) := by go_simp
    have B2 : Below w.heap.size w w2 := by repeat (first | exact Below.refl _ _ | assumption | refine Below.alloc ?_ (by first | (simp; done) | (simp; omega) | omega) _ | refine Below.setCell ?_ (by first | (simp; done) | (simp; omega) | omega) _ | apply Below.drew | refine Below.trans ?_ (Below.mono (by assumption) (by first | (simp; done) | (simp; omega) | omega)))
    clear hcw1 hfw1 hcw2 hfw2 h1
    go_region
    all_goals
      go_wp2
      go_ret2
      exact ⟨rfl, ArTo.same (unhide HH) (by repeat (first | exact Below.refl _ _ | assumption | refine Below.alloc ?_ (by first | (simp; done) | (simp; omega) | omega) _ | refine Below.setCell ?_ (by first | (simp; done) | (simp; omega) | omega) _ | apply Below.drew | refine Below.trans ?_ (Below.mono (by assumption) (by first | (simp; done) | (simp; omega) | omega))))⟩

/-- Any access of an arena that is there. -/
theorem do_any (g h n : Nat) (xs : Nat → Int) (k a o v : Int) (w : World) (H : IsAr w g h n xs) :
    Calls Try.prog 24 #[.pointer (some ⟨g, 0, none⟩), .agg #[.int .i64 k, .int .i64 a, .int .u64 o, .int .u64 v]] w fun e w' => e = .returned (.tuple #[.int .u64 (doA n xs k a o v), .int .i64 (doE n k a o v)]) ∧ ArTo w w' g h n (doX n xs k a o v) := by
  by_cases hb : accB k a o v = true
  · have hh := accB_iff.1 hb
    by_cases hk : k = 0
    · subst hk
      obtain rfl : a = 0 := by omega
      obtain rfl : o = 0 := by omega
      obtain rfl : v = 0 := by omega
      have c := do_none g h n xs w H
      have e1 : doE n 0 0 0 0 = 0 := by simp [doE, hb]
      rw [show doA n xs 0 0 0 0 = 0 by simp [doA, e1], e1, show doX n xs 0 0 0 0 = xs by simp [doX]]
      exact c
    · by_cases hr : a < 0 ∨ (n : Int) ≤ a
      · have c := do_range g h n xs k a o v hb hk hr w H
        have e1 : doE n k a o v = 4 := by unfold doE; rw [if_pos hb, if_neg hk, if_pos hr]
        rw [show doA n xs k a o v = 0 by simp [doA, e1], e1, show doX n xs k a o v = xs by simp [doX, e1]]
        exact c
      · have e1 : doE n k a o v = 0 := by unfold doE; rw [if_pos hb, if_neg hk, if_neg hr]
        obtain ⟨i, rfl⟩ := Int.eq_ofNat_of_zero_le (show 0 ≤ a by omega)
        have hi : i < n := by omega
        rcases (show k = 1 ∨ k = 2 ∨ k = 3 by omega) with rfl | rfl | rfl
        · obtain rfl : o = 0 := by omega
          obtain rfl : v = 0 := by omega
          have c := do_load g h n xs i hi w H
          rw [show doA n xs 1 (i : Int) 0 0 = xs i by simp [doA, e1], e1, show doX n xs 1 (i : Int) 0 0 = xs by simp [doX]]
          exact c
        · obtain rfl : o = 0 := by omega
          have c := do_store g h n xs i v hi w H
          rw [show doA n xs 2 (i : Int) 0 v = 0 by simp [doA], e1, show doX n xs 2 (i : Int) 0 v = upd xs i v by simp [doX, e1]]
          exact c
        · by_cases hx : xs i = o
          · have c := do_casyes g h n xs i o v hi hx w H
            rw [show doA n xs 3 (i : Int) o v = xs i by simp [doA, e1], e1, show doX n xs 3 (i : Int) o v = upd xs i v by simp [doX, e1, hx]]
            exact c
          · have c := do_casno g h n xs i o v hi hx w H
            rw [show doA n xs 3 (i : Int) o v = xs i by simp [doA, e1], e1, show doX n xs 3 (i : Int) o v = xs by simp [doX, hx]]
            exact c
  · have hb2 : accB k a o v = false := by simpa using hb
    have c := do_bad g h n xs k a o v hb2 w H
    have e1 : doE n k a o v = 2 := by simp [doE, hb2]
    rw [show doA n xs k a o v = 0 by simp [doA, e1], e1, show doX n xs k a o v = xs by simp [doX, e1]]
    exact c
end Go.Proofs.Ytnnllhlcpmmcaaa
