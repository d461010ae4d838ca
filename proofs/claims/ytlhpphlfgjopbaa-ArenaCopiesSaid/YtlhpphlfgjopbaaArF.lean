/- The walks of package arena: a word loaded, stored, compared and swapped by number; the law package's own rows. -/
import Derived.Test.YtlhpphlfgjopbaaArE
namespace Go.Proofs.Ytlhpphlfgjopbaa
set_option linter.unusedVariables false
set_option linter.unusedSimpArgs false
open Go.RowKit

set_option maxHeartbeats 2000000 in
theorem ld_any (g h n : Nat) (xs : Nat → Int) (a : Int) (w : World) (H : IsAr w g h n xs) :
    Calls Try.prog 20 #[.pointer (some ⟨g, 0, none⟩), .int .i64 a] w fun e w' => e = .returned (.tuple #[.int .u64 (doA n xs 1 a 0 0), .int .i64 (doE n 1 a 0 0)]) ∧ ArTo w w' g h n xs := by
  have c := do_any g h n xs 1 a 0 0 w H
  rw [show doX n xs 1 a 0 0 = xs by simp [doX]] at c
  go_enter Try.func20, Try.ntmps20
  go_wp2_with fail
  refine c.mono ?_
  rintro e w1 ⟨rfl, h1⟩
  go_wp2
  go_ret2
  exact ⟨rfl, h1⟩

set_option maxHeartbeats 2000000 in
theorem st_any (g h n : Nat) (xs : Nat → Int) (a v : Int) (w : World) (H : IsAr w g h n xs) :
    Calls Try.prog 22 #[.pointer (some ⟨g, 0, none⟩), .int .i64 a, .int .u64 v] w fun e w' => e = .returned (.int .i64 (doE n 2 a 0 v)) ∧ ArTo w w' g h n (doX n xs 2 a 0 v) := by
  have c := do_any g h n xs 2 a 0 v w H
  go_enter Try.func22, Try.ntmps22
  go_wp2_with fail
  refine c.mono ?_
  rintro e w1 ⟨rfl, h1⟩
  go_wp2
  go_ret
  exact ⟨rfl, h1⟩

set_option maxHeartbeats 2000000 in
theorem cs_any (g h n : Nat) (xs : Nat → Int) (a o v : Int) (w : World) (H : IsAr w g h n xs) :
    Calls Try.prog 24 #[.pointer (some ⟨g, 0, none⟩), .int .i64 a, .int .u64 o, .int .u64 v] w fun e w' => e = .returned (.tuple #[.int .u64 (doA n xs 3 a o v), .int .i64 (doE n 3 a o v)]) ∧ ArTo w w' g h n (doX n xs 3 a o v) := by
  have c := do_any g h n xs 3 a o v w H
  go_enter Try.func24, Try.ntmps24
  go_wp2_with fail
  refine c.mono ?_
  rintro e w1 ⟨rfl, h1⟩
  go_wp2
  go_ret2
  exact ⟨rfl, h1⟩

set_option maxHeartbeats 2000000 in
theorem len_any (g h n : Nat) (xs : Nat → Int) (w : World) (H : IsAr w g h n xs) :
    Calls Try.prog 26 #[.pointer (some ⟨g, 0, none⟩)] w fun e w' => e = .returned (.int .i64 n) ∧ Below w.heap.size w w' := by
  have HH := hide H
  obtain ⟨h1, h2, h3, h4, h5, h6⟩ := H
  clear h6
  go_enter Try.func26, Try.ntmps26
  go_wp2_with fail
  (refine (none_any g h n xs _ (unhide HH)).mono ?_); rintro e w1 ⟨rfl, hw1⟩; obtain ⟨hcw1, hfw1⟩ := bcell hw1; (try (simp only [World.size_drew, World.cell?_drew, World.frozen?_drew] at hcw1 hfw1)); have hzw1 := hw1.size; (try (simp only [World.size_alloc, World.size_setCell, World.size_drew] at hzw1)); (try (have hzw1_w_0 : w.heap.size < w1.heap.size := by omega)); (try (have hzw1_w_1 : w.heap.size + 1 < w1.heap.size := by omega)); (try (have hzw1_w_2 : w.heap.size + 1 + 1 < w1.heap.size := by omega)); (try (have hzw1_w_3 : w.heap.size + 1 + 1 + 1 < w1.heap.size := by omega)); (try (have hyw1_w : w.heap.size ≤ w1.heap.size := by omega)); (try (have hyw1_wa : w.heap.size + 1 ≤ w1.heap.size := by omega))
  (have hbw1 : g < w1.heap.size := by omega); (have hblw1 : g ≤ w1.heap.size := by omega)
  go_wp2
  go_ret
  exact ⟨rfl, by repeat (first | exact Below.refl _ _ | assumption | refine Below.alloc ?_ (by first | (simp; done) | (simp; omega) | omega) _ | refine Below.setCell ?_ (by first | (simp; done) | (simp; omega) | omega) _ | apply Below.drew | refine Below.trans ?_ (Below.mono (by assumption) (by first | (simp; done) | (simp; omega) | omega)))⟩

set_option maxHeartbeats 400000 in
theorem num5_any (x : Int) (w : World) : Calls Try.prog 11 #[.int .i64 x] w fun e w' => e = .returned (.int .i64 x) ∧ w = w' := by
  go_enter Try.func11, Try.ntmps11
  go_wp2
  go_ret
  exact ⟨rfl, rfl⟩

theorem c5_new (W : World) : Calls Try.prog 14 #[.int .i64 3] W fun e w' => ∃ g h, e = .returned (.tuple #[.pointer (some ⟨g, 0, none⟩), .int .i64 0]) ∧ Below W.heap.size W w' ∧ W.heap.size ≤ g ∧ W.heap.size ≤ h ∧ IsAr w' g h 3 (fun _ => 0) :=
  new_yes 3 (by omega) (by omega) W

theorem below_grown {w A B : World} {row : Nat} (hb : Below w.heap.size w A) (hg : A.grownBy B (some row)) (hr : w.heap.size ≤ row) : Below w.heap.size w B :=
  hb.grown hg hb.size (fun k e => by cases e; exact hr)

set_option maxHeartbeats 4000000 in
theorem works5_any (w : World) : Calls Try.prog 10 #[] w fun e w' => e = .returned (.bool true) ∧ Below w.heap.size w w' := by
  go_enter Try.func10, Try.ntmps10
  go_wp2_with fail
  refine (c5_new _).mono ?_
  rintro e w1 ⟨g, h, rfl, hb1, hg, hh, H1⟩
  have B1 := hide hb1
  have H1 := hide H1
  go_wp2_with fail
  have c := cs_any g h 3 (fun _ => 0) 1 0 7 w1 (unhide H1)
  have ex : doX 3 (fun _ => 0) 3 1 0 7 = upd (fun _ => 0) 1 7 := by simp [doX, doE, accB]
  rw [show doA 3 (fun _ => 0) 3 1 0 7 = 0 by decide, show doE 3 3 1 0 7 = 0 by decide, ex] at c
  refine c.mono ?_
  clear c ex
  rintro e w2 ⟨rfl, k2⟩
  have B2 := hide (below_grown (unhide B1) k2.1 hh)
  have H2 := hide k2.2
  clear k2 B1 H1
  go_wp2_with fail
  have c := cs_any g h 3 (upd (fun _ => 0) 1 7) 1 0 8 w2 (unhide H2)
  have ex : doX 3 (upd (fun _ => 0) 1 7) 3 1 0 8 = upd (fun _ => 0) 1 7 := by simp [doX, upd]
  rw [show doA 3 (upd (fun _ => 0) 1 7) 3 1 0 8 = 7 by decide, show doE 3 3 1 0 8 = 0 by decide, ex] at c
  refine c.mono ?_
  clear c ex
  rintro e w3 ⟨rfl, k2⟩
  have B3 := hide (below_grown (unhide B2) k2.1 hh)
  have H3 := hide k2.2
  clear k2 B2 H2
  go_wp2_with fail
  have c := ld_any g h 3 (upd (fun _ => 0) 1 7) 1 w3 (unhide H3)
  rw [show doA 3 (upd (fun _ => 0) 1 7) 1 1 0 0 = 7 by decide, show doE 3 1 1 0 0 = 0 by decide] at c
  refine c.mono ?_
  clear c
  rintro e w4 ⟨rfl, k2⟩
  have B4 := hide (below_grown (unhide B3) k2.1 hh)
  have H4 := hide k2.2
  clear k2 B3 H3
  go_wp2_with fail
  have c := ld_any g h 3 (upd (fun _ => 0) 1 7) 3 w4 (unhide H4)
  rw [show doA 3 (upd (fun _ => 0) 1 7) 1 3 0 0 = 0 by decide, show doE 3 1 3 0 0 = 4 by decide] at c
  refine c.mono ?_
  clear c
  rintro e w5 ⟨rfl, k2⟩
  have B5 := hide (below_grown (unhide B4) k2.1 hh)
  have H5 := hide k2.2
  clear k2 B4 H4
  go_wp2_with fail
  have c := do_any g h 3 (upd (fun _ => 0) 1 7) 1 1 0 5 w5 (unhide H5)
  have ex : doX 3 (upd (fun _ => 0) 1 7) 1 1 0 5 = upd (fun _ => 0) 1 7 := by simp [doX]
  rw [show doA 3 (upd (fun _ => 0) 1 7) 1 1 0 5 = 0 by decide, show doE 3 1 1 0 5 = 2 by decide, ex] at c
  refine c.mono ?_
  clear c ex
  rintro e w6 ⟨rfl, k2⟩
  have B6 := hide (below_grown (unhide B5) k2.1 hh)
  have H6 := hide k2.2
  clear k2 B5 H5
  go_wp2_with (first | (go_at_call 11; refine (num5_any _ _).mono ?_; rintro e w' ⟨rfl, rfl⟩) | (go_at_call 26; refine (len_any g h 3 (upd (fun _ => 0) 1 7) w6 (unhide H6)).mono ?_; rintro e w7 ⟨rfl, hw7⟩))
  go_ret
  exact ⟨rfl, (unhide B6).trans (hw7.mono (unhide B6).size)⟩
end Go.Proofs.Ytlhpphlfgjopbaa
