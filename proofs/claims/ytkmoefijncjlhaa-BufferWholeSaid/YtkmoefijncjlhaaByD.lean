/- The walks of package buffer: Check, Empty, Wants, Take; the same of its reference. -/
import Derived.Test.YtkmoefijncjlhaaByC
import Derived.Deep.RegionHeld3
namespace Go.Proofs.Ytkmoefijncjlhaa
set_option linter.unusedVariables false
set_option linter.unusedSimpArgs false
open Go.RowKit

set_option maxHeartbeats 2000000 in
theorem byChk_any (t sp : Int) (A : Option Addr) (len cap : Nat) (S : Nat → ByteArray) (hlen : len ≤ 1000) (hS : ∀ i, i < len → (S i).size ≤ 100) (s a l : Int) (ha : a ≤ 9223372036854775807) (w : World) (H : ShOk w A len S) :
    Calls Try.prog 13 #[.agg #[.int .i64 t, .int .i64 sp, .slice A len cap], .agg #[.int .i64 s, .int .i64 a, .int .i64 l]] w fun e w' => e = .returned (.int .i64 (if rgtB t sp len S s a l = true then 0 else 2)) ∧ Below w.heap.size w w' := by
  have c1 := hide (fun W (hW : Below w.heap.size w W) => lentRight_any t sp A len cap S hlen hS s a l ha W (H.keep hW))
  clear H hS
  cases e : rgtB t sp len S s a l with
  | true =>
    rw [e] at c1
    rw [if_pos rfl]
    clear e
    go_enter Try.func13, Try.ntmps13
    go_wp2_with fail
    refine (unhide c1 _ (by repeat (first | exact Below.refl _ _ | assumption | refine Below.alloc ?_ (by first | (simp; done) | (simp; omega) | omega) _ | refine Below.setCell ?_ (by first | (simp; done) | (simp; omega) | omega) _ | apply Below.drew | refine Below.trans ?_ (Below.mono (by assumption) (by first | (simp; done) | (simp; omega) | omega))))).mono ?_
    rintro e w2 ⟨rfl, hb2⟩
    go_wp2
    go_ret
    exact ⟨rfl, by repeat (first | exact Below.refl _ _ | assumption | refine Below.alloc ?_ (by first | (simp; done) | (simp; omega) | omega) _ | refine Below.setCell ?_ (by first | (simp; done) | (simp; omega) | omega) _ | apply Below.drew | refine Below.trans ?_ (Below.mono (by assumption) (by first | (simp; done) | (simp; omega) | omega)))⟩
  | false =>
    rw [e] at c1
    rw [if_neg (by simp)]
    clear e
    go_enter Try.func13, Try.ntmps13
    go_wp2_with fail
    refine (unhide c1 _ (by repeat (first | exact Below.refl _ _ | assumption | refine Below.alloc ?_ (by first | (simp; done) | (simp; omega) | omega) _ | refine Below.setCell ?_ (by first | (simp; done) | (simp; omega) | omega) _ | apply Below.drew | refine Below.trans ?_ (Below.mono (by assumption) (by first | (simp; done) | (simp; omega) | omega))))).mono ?_
    rintro e w2 ⟨rfl, hb2⟩
    go_wp2
    go_ret
    exact ⟨rfl, by repeat (first | exact Below.refl _ _ | assumption | refine Below.alloc ?_ (by first | (simp; done) | (simp; omega) | omega) _ | refine Below.setCell ?_ (by first | (simp; done) | (simp; omega) | omega) _ | apply Below.drew | refine Below.trans ?_ (Below.mono (by assumption) (by first | (simp; done) | (simp; omega) | omega)))⟩

set_option maxHeartbeats 4000000 in
theorem refRight15_any (t sp : Int) (A : Option Addr) (len cap : Nat) (S : Nat → ByteArray) (hp : okP t sp len S) (s a l : Int) (w : World) :
    Calls Try.prog 24 #[.agg #[.int .i64 t, .int .i64 sp, .slice A len cap], .agg #[.int .i64 s, .int .i64 a, .int .i64 l]] w fun e w' => e = .returned (.bool (rgtB t sp len S s a l)) ∧ Below w.heap.size w w' := by
  by_cases hs : s = 0 ∨ s = 1
  · have c2 := hide (fun W => refWithin_any t sp A len cap S s a l hp hs W)
    have hsb : (s = 0 ∧ (s != 0) = false ∧ (s != 1) = true) ∨ (s = 1 ∧ (s != 0) = true ∧ (s != 1) = false) := by
      rcases hs with rfl | rfl
      · exact .inl ⟨rfl, rfl, rfl⟩
      · exact .inr ⟨rfl, rfl, rfl⟩
    by_cases h1 : l < 0
    · have hr : Hid (rgtB t sp len S s a l = false) := hide (rgtB_no (fun h => by have := h.2.2.1; omega))
      clear hs c2
      rcases hsb with ⟨rfl, _, _⟩ | ⟨rfl, _, _⟩
      all_goals
        go_enter Try.func24, Try.ntmps24
        go_wp2
        go_ret
        exact ⟨ret_bool (by rw [unhide hr]), by repeat (first | exact Below.refl _ _ | assumption | refine Below.alloc ?_ (by first | (simp; done) | (simp; omega) | omega) _ | refine Below.setCell ?_ (by first | (simp; done) | (simp; omega) | omega) _ | apply Below.drew | refine Below.trans ?_ (Below.mono (by assumption) (by first | (simp; done) | (simp; omega) | omega)))⟩
    by_cases h2 : l = 0
    · have hr : Hid (rgtB t sp len S s a l = (a == 0)) := hide (by
        rw [Bool.eq_iff_iff, rgtB_iff]
        exact ⟨fun h => by simpa using h.2.2.2.1 h2, fun h => ⟨hp, hs, by omega, fun _ => by simpa using h, fun h => absurd h2 h⟩⟩)
      subst h2
      clear hs c2
      rcases hsb with ⟨rfl, _, _⟩ | ⟨rfl, _, _⟩
      all_goals
        go_enter Try.func24, Try.ntmps24
        go_wp2
        go_ret
        exact ⟨ret_bool (by rw [unhide hr]), by repeat (first | exact Below.refl _ _ | assumption | refine Below.alloc ?_ (by first | (simp; done) | (simp; omega) | omega) _ | refine Below.setCell ?_ (by first | (simp; done) | (simp; omega) | omega) _ | apply Below.drew | refine Below.trans ?_ (Below.mono (by assumption) (by first | (simp; done) | (simp; omega) | omega)))⟩
    · have hr : Hid (rgtB t sp len S s a l = witB t sp len S s a l) := hide (by
        rw [Bool.eq_iff_iff, witB_iff, rgtB_iff]
        exact ⟨fun h => h.2.2.2.2 h2, fun h => ⟨hp, hs, by omega, fun h0 => absurd h0 h2, fun _ => h⟩⟩)
      have hl0 : (l == 0) = false := by simpa using h2
      clear hs
      rcases hsb with ⟨rfl, _, _⟩ | ⟨rfl, _, _⟩
      · generalize witB t sp len S 0 a l = R at c2 hr
        go_enter Try.func24, Try.ntmps24
        go_wp2_with fail
        refine (unhide c2 _).mono ?_
        rintro e w2 ⟨rfl, hb2⟩
        have hz2 := hb2.size
        simp only [World.size_alloc] at hz2
        go_wp2
        go_ret
        exact ⟨ret_bool (by rw [unhide hr]), by repeat (first | exact Below.refl _ _ | assumption | refine Below.alloc ?_ (by first | (simp; done) | (simp; omega) | omega) _ | refine Below.setCell ?_ (by first | (simp; done) | (simp; omega) | omega) _ | apply Below.drew | refine Below.trans ?_ (Below.mono (by assumption) (by first | (simp; done) | (simp; omega) | omega)))⟩
      · generalize witB t sp len S 1 a l = R at c2 hr
        go_enter Try.func24, Try.ntmps24
        go_wp2_with fail
        refine (unhide c2 _).mono ?_
        rintro e w2 ⟨rfl, hb2⟩
        have hz2 := hb2.size
        simp only [World.size_alloc] at hz2
        go_wp2
        go_ret
        exact ⟨ret_bool (by rw [unhide hr]), by repeat (first | exact Below.refl _ _ | assumption | refine Below.alloc ?_ (by first | (simp; done) | (simp; omega) | omega) _ | refine Below.setCell ?_ (by first | (simp; done) | (simp; omega) | omega) _ | apply Below.drew | refine Below.trans ?_ (Below.mono (by assumption) (by first | (simp; done) | (simp; omega) | omega)))⟩
  · have hr : Hid (rgtB t sp len S s a l = false) := hide (rgtB_no (fun h => hs h.2.1))
    have hs0 : (s != 0) = true := by simp; omega
    have hs1 : (s != 1) = true := by simp; omega
    go_enter Try.func24, Try.ntmps24
    go_wp2
    go_ret
    exact ⟨ret_bool (by rw [unhide hr]), by repeat (first | exact Below.refl _ _ | assumption | refine Below.alloc ?_ (by first | (simp; done) | (simp; omega) | omega) _ | refine Below.setCell ?_ (by first | (simp; done) | (simp; omega) | omega) _ | apply Below.drew | refine Below.trans ?_ (Below.mono (by assumption) (by first | (simp; done) | (simp; omega) | omega)))⟩

set_option maxHeartbeats 2000000 in
theorem refChk15_any (t sp : Int) (A : Option Addr) (len cap : Nat) (S : Nat → ByteArray) (hlen : len ≤ 1000) (hS : ∀ i, i < len → (S i).size ≤ 100) (s a l : Int) (w : World) (H : ShOk w A len S) :
    Calls Try.prog 14 #[.agg #[.int .i64 t, .int .i64 sp, .slice A len cap], .agg #[.int .i64 s, .int .i64 a, .int .i64 l]] w fun e w' => e = .returned (.int .i64 (if rgtB t sp len S s a l = true then 0 else 2)) ∧ Below w.heap.size w w' := by
  have c1 := hide (fun W (hW : Below w.heap.size w W) => right06_any t sp A len cap S hlen hS W (H.keep hW))
  clear H hS
  cases ep : okPB t sp len S with
  | false =>
    rw [ep] at c1
    rw [if_neg (by rw [rgtB_iff]; exact fun h => by have := okPB_iff.2 h.1; rw [ep] at this; cases this)]
    clear ep
    go_enter Try.func14, Try.ntmps14
    go_wp2_with fail
    refine (unhide c1 _ (by repeat (first | exact Below.refl _ _ | assumption | refine Below.alloc ?_ (by first | (simp; done) | (simp; omega) | omega) _ | refine Below.setCell ?_ (by first | (simp; done) | (simp; omega) | omega) _ | apply Below.drew | refine Below.trans ?_ (Below.mono (by assumption) (by first | (simp; done) | (simp; omega) | omega))))).mono ?_
    rintro e w2 ⟨rfl, hb2⟩
    go_wp2
    go_ret
    exact ⟨rfl, by repeat (first | exact Below.refl _ _ | assumption | refine Below.alloc ?_ (by first | (simp; done) | (simp; omega) | omega) _ | refine Below.setCell ?_ (by first | (simp; done) | (simp; omega) | omega) _ | apply Below.drew | refine Below.trans ?_ (Below.mono (by assumption) (by first | (simp; done) | (simp; omega) | omega)))⟩
  | true =>
    rw [ep] at c1
    have c2 := hide (fun W => refRight15_any t sp A len cap S (okPB_iff.1 ep) s a l W)
    clear ep
    cases e : rgtB t sp len S s a l with
    | true =>
      rw [e] at c2
      rw [if_pos rfl]
      clear e
      go_enter Try.func14, Try.ntmps14
      go_wp2_with fail
      refine (unhide c1 _ (by repeat (first | exact Below.refl _ _ | assumption | refine Below.alloc ?_ (by first | (simp; done) | (simp; omega) | omega) _ | refine Below.setCell ?_ (by first | (simp; done) | (simp; omega) | omega) _ | apply Below.drew | refine Below.trans ?_ (Below.mono (by assumption) (by first | (simp; done) | (simp; omega) | omega))))).mono ?_
      rintro e w2 ⟨rfl, hw2⟩; obtain ⟨hcw2, hfw2⟩ := bcell hw2; (try (simp only [World.size_drew, World.cell?_drew, World.frozen?_drew] at hcw2 hfw2)); have hzw2 := hw2.size; (try (simp only [World.size_alloc, World.size_setCell, World.size_drew] at hzw2)); (try (have hzw2_w_0 : w.heap.size < w2.heap.size := by omega)); (try (have hzw2_w_1 : w.heap.size + 1 < w2.heap.size := by omega)); (try (have hzw2_w_2 : w.heap.size + 1 + 1 < w2.heap.size := by omega)); (try (have hzw2_w_3 : w.heap.size + 1 + 1 + 1 < w2.heap.size := by omega)); (try (have hyw2_w : w.heap.size ≤ w2.heap.size := by omega)); (try (have hyw2_wa : w.heap.size + 1 ≤ w2.heap.size := by omega))
      have B2 : Below w.heap.size w w2 := by repeat (first | exact Below.refl _ _ | assumption | refine Below.alloc ?_ (by first | (simp; done) | (simp; omega) | omega) _ | refine Below.setCell ?_ (by first | (simp; done) | (simp; omega) | omega) _ | apply Below.drew | refine Below.trans ?_ (Below.mono (by assumption) (by first | (simp; done) | (simp; omega) | omega)))
      go_wp2_with fail
      refine (unhide c2 _).mono ?_
      rintro e w3 ⟨rfl, hb3⟩
      go_wp2
      go_ret
      exact ⟨rfl, B2.trans (hb3.mono B2.size)⟩
    | false =>
      rw [e] at c2
      rw [if_neg (by simp)]
      clear e
      go_enter Try.func14, Try.ntmps14
      go_wp2_with fail
      refine (unhide c1 _ (by repeat (first | exact Below.refl _ _ | assumption | refine Below.alloc ?_ (by first | (simp; done) | (simp; omega) | omega) _ | refine Below.setCell ?_ (by first | (simp; done) | (simp; omega) | omega) _ | apply Below.drew | refine Below.trans ?_ (Below.mono (by assumption) (by first | (simp; done) | (simp; omega) | omega))))).mono ?_
      rintro e w2 ⟨rfl, hw2⟩; obtain ⟨hcw2, hfw2⟩ := bcell hw2; (try (simp only [World.size_drew, World.cell?_drew, World.frozen?_drew] at hcw2 hfw2)); have hzw2 := hw2.size; (try (simp only [World.size_alloc, World.size_setCell, World.size_drew] at hzw2)); (try (have hzw2_w_0 : w.heap.size < w2.heap.size := by omega)); (try (have hzw2_w_1 : w.heap.size + 1 < w2.heap.size := by omega)); (try (have hzw2_w_2 : w.heap.size + 1 + 1 < w2.heap.size := by omega)); (try (have hzw2_w_3 : w.heap.size + 1 + 1 + 1 < w2.heap.size := by omega)); (try (have hyw2_w : w.heap.size ≤ w2.heap.size := by omega)); (try (have hyw2_wa : w.heap.size + 1 ≤ w2.heap.size := by omega))
      have B2 : Below w.heap.size w w2 := by repeat (first | exact Below.refl _ _ | assumption | refine Below.alloc ?_ (by first | (simp; done) | (simp; omega) | omega) _ | refine Below.setCell ?_ (by first | (simp; done) | (simp; omega) | omega) _ | apply Below.drew | refine Below.trans ?_ (Below.mono (by assumption) (by first | (simp; done) | (simp; omega) | omega)))
      go_wp2_with fail
      refine (unhide c2 _).mono ?_
      rintro e w3 ⟨rfl, hb3⟩
      go_wp2
      go_ret
      exact ⟨rfl, B2.trans (hb3.mono B2.size)⟩

/-- A buffer with so many words. -/
def rsA (a n : Int) : Int := if n = 0 then 0 else a

set_option maxHeartbeats 1000000 in
theorem rest_any (s a0 l0 t sp : Int) (A : Option Addr) (len cap : Nat) (a n : Int) (w : World) :
    Calls Try.prog 25 #[.agg #[.int .i64 s, .int .i64 a0, .int .i64 l0, .int .i64 t, .int .i64 sp, .slice A len cap], .int .i64 a, .int .i64 n] w
      fun e w' => e = .returned (.agg #[.int .i64 s, .int .i64 (rsA a n), .int .i64 n]) ∧ Below w.heap.size w w' := by
  by_cases h : n = 0
  · have hb : (n == 0) = true := by simpa using h
    have hr : Hid (rsA a n = 0) := hide (by unfold rsA; rw [if_pos h])
    clear h
    rw [unhide hr]
    go_enter Try.func25, Try.ntmps25
    go_wp2
    refine bodyPost_ret (v := .agg #[.int .i64 s, .int .i64 0, .int .i64 n]) (by simp only [results, Try.results25]; go_simp) rfl ?_
    refine ⟨rfl, ?_⟩
    repeat (first | exact Below.refl _ _ | assumption | refine Below.alloc ?_ (by first | (simp; done) | (simp; omega) | omega) _ | refine Below.setCell ?_ (by first | (simp; done) | (simp; omega) | omega) _ | apply Below.drew | refine Below.trans ?_ (Below.mono (by assumption) (by first | (simp; done) | (simp; omega) | omega)))
  · have hb : (n == 0) = false := by simpa using h
    have hr : Hid (rsA a n = a) := hide (by unfold rsA; rw [if_neg h])
    clear h
    rw [unhide hr]
    go_enter Try.func25, Try.ntmps25
    go_wp2
    refine bodyPost_ret (v := .agg #[.int .i64 s, .int .i64 a, .int .i64 n]) (by simp only [results, Try.results25]; go_simp) rfl ?_
    refine ⟨rfl, ?_⟩
    repeat (first | exact Below.refl _ _ | assumption | refine Below.alloc ?_ (by first | (simp; done) | (simp; omega) | omega) _ | refine Below.setCell ?_ (by first | (simp; done) | (simp; omega) | omega) _ | apply Below.drew | refine Below.trans ?_ (Below.mono (by assumption) (by first | (simp; done) | (simp; omega) | omega)))

set_option maxHeartbeats 1000000 in
theorem refRest_any (s a n : Int) (w : World) :
    Calls Try.prog 28 #[.int .i64 s, .int .i64 a, .int .i64 n] w fun e w' => e = .returned (.agg #[.int .i64 s, .int .i64 (rsA a n), .int .i64 n]) ∧ Below w.heap.size w w' := by
  by_cases h : n = 0
  · have hr : Hid (rsA a n = 0) := hide (by unfold rsA; rw [if_pos h])
    rw [unhide hr]
    subst h
    go_enter Try.func28, Try.ntmps28
    go_wp2
    refine bodyPost_ret (v := .agg #[.int .i64 s, .int .i64 0, .int .i64 0]) (by simp only [results, Try.results28]; go_simp) rfl ?_
    refine ⟨rfl, ?_⟩
    repeat (first | exact Below.refl _ _ | assumption | refine Below.alloc ?_ (by first | (simp; done) | (simp; omega) | omega) _ | refine Below.setCell ?_ (by first | (simp; done) | (simp; omega) | omega) _ | apply Below.drew | refine Below.trans ?_ (Below.mono (by assumption) (by first | (simp; done) | (simp; omega) | omega)))
  · have hb : (n == 0) = false := by simpa using h
    have hr : Hid (rsA a n = a) := hide (by unfold rsA; rw [if_neg h])
    clear h
    rw [unhide hr]
    go_enter Try.func28, Try.ntmps28
    go_wp2
    refine bodyPost_ret (v := .agg #[.int .i64 s, .int .i64 a, .int .i64 n]) (by simp only [results, Try.results28]; go_simp) rfl ?_
    refine ⟨rfl, ?_⟩
    repeat (first | exact Below.refl _ _ | assumption | refine Below.alloc ?_ (by first | (simp; done) | (simp; omega) | omega) _ | refine Below.setCell ?_ (by first | (simp; done) | (simp; omega) | omega) _ | apply Below.drew | refine Below.trans ?_ (Below.mono (by assumption) (by first | (simp; done) | (simp; omega) | omega)))

/-- What Wants tells. -/
def wnN (l n : Int) : Int := if n < 1 ∨ l < 0 ∨ n ≤ l then 0 else if l = 0 ∧ n ≤ 16 then 16 else 0
def wnB (l n : Int) : Bool := !(decide (n < 1 ∨ l < 0 ∨ n ≤ l))

set_option maxHeartbeats 2000000 in
theorem wants_any (s a l n : Int) (w : World) :
    Calls Try.prog 17 #[.agg #[.int .i64 s, .int .i64 a, .int .i64 l], .int .i64 n] w fun e w' => e = .returned (.tuple #[.int .i64 (wnN l n), .bool (wnB l n)]) ∧ Below w.heap.size w w' := by
  by_cases h : n < 1 ∨ l < 0 ∨ n ≤ l
  · rw [show wnN l n = 0 by unfold wnN; rw [if_pos h], show wnB l n = false by unfold wnB; simp [h]]
    by_cases h1 : n < 1
    · clear h
      go_enter Try.func17, Try.ntmps17
      go_wp2
      go_ret2
      exact ⟨rfl, by repeat (first | exact Below.refl _ _ | assumption | refine Below.alloc ?_ (by first | (simp; done) | (simp; omega) | omega) _ | refine Below.setCell ?_ (by first | (simp; done) | (simp; omega) | omega) _ | apply Below.drew | refine Below.trans ?_ (Below.mono (by assumption) (by first | (simp; done) | (simp; omega) | omega)))⟩
    by_cases h2 : l < 0
    · clear h
      go_enter Try.func17, Try.ntmps17
      go_wp2
      go_ret2
      exact ⟨rfl, by repeat (first | exact Below.refl _ _ | assumption | refine Below.alloc ?_ (by first | (simp; done) | (simp; omega) | omega) _ | refine Below.setCell ?_ (by first | (simp; done) | (simp; omega) | omega) _ | apply Below.drew | refine Below.trans ?_ (Below.mono (by assumption) (by first | (simp; done) | (simp; omega) | omega)))⟩
    · have h3 : n ≤ l := by omega
      clear h
      go_enter Try.func17, Try.ntmps17
      go_wp2
      go_ret2
      exact ⟨rfl, by repeat (first | exact Below.refl _ _ | assumption | refine Below.alloc ?_ (by first | (simp; done) | (simp; omega) | omega) _ | refine Below.setCell ?_ (by first | (simp; done) | (simp; omega) | omega) _ | apply Below.drew | refine Below.trans ?_ (Below.mono (by assumption) (by first | (simp; done) | (simp; omega) | omega)))⟩
  · have h1 : ¬ n < 1 := fun x => h (.inl x)
    have h2 : ¬ l < 0 := fun x => h (.inr (.inl x))
    have h3 : ¬ n ≤ l := fun x => h (.inr (.inr x))
    rw [show wnB l n = true by unfold wnB; simp [h]]
    by_cases h4 : l = 0
    · have hb : (l == 0) = true := by simpa using h4
      by_cases h5 : n ≤ 16
      · rw [show wnN l n = 16 by unfold wnN; rw [if_neg h, if_pos ⟨h4, h5⟩]]
        subst h4
        clear h
        go_enter Try.func17, Try.ntmps17
        go_wp2
        go_ret2
        exact ⟨rfl, by repeat (first | exact Below.refl _ _ | assumption | refine Below.alloc ?_ (by first | (simp; done) | (simp; omega) | omega) _ | refine Below.setCell ?_ (by first | (simp; done) | (simp; omega) | omega) _ | apply Below.drew | refine Below.trans ?_ (Below.mono (by assumption) (by first | (simp; done) | (simp; omega) | omega)))⟩
      · rw [show wnN l n = 0 by unfold wnN; rw [if_neg h, if_neg (fun x => h5 x.2)]]
        subst h4
        clear h
        go_enter Try.func17, Try.ntmps17
        go_wp2
        go_ret2
        exact ⟨rfl, by repeat (first | exact Below.refl _ _ | assumption | refine Below.alloc ?_ (by first | (simp; done) | (simp; omega) | omega) _ | refine Below.setCell ?_ (by first | (simp; done) | (simp; omega) | omega) _ | apply Below.drew | refine Below.trans ?_ (Below.mono (by assumption) (by first | (simp; done) | (simp; omega) | omega)))⟩
    · have hb : (l == 0) = false := by simpa using h4
      rw [show wnN l n = 0 by unfold wnN; rw [if_neg h, if_neg (fun x => h4 x.1)]]
      clear h h4
      go_enter Try.func17, Try.ntmps17
      go_wp2
      go_ret2
      exact ⟨rfl, by repeat (first | exact Below.refl _ _ | assumption | refine Below.alloc ?_ (by first | (simp; done) | (simp; omega) | omega) _ | refine Below.setCell ?_ (by first | (simp; done) | (simp; omega) | omega) _ | apply Below.drew | refine Below.trans ?_ (Below.mono (by assumption) (by first | (simp; done) | (simp; omega) | omega)))⟩
set_option maxHeartbeats 2000000 in
theorem refWants_any (s a l n : Int) (w : World) :
    Calls Try.prog 18 #[.agg #[.int .i64 s, .int .i64 a, .int .i64 l], .int .i64 n] w fun e w' => e = .returned (.tuple #[.int .i64 (wnN l n), .bool (wnB l n)]) ∧ Below w.heap.size w w' := by
  by_cases h : n < 1 ∨ l < 0 ∨ n ≤ l
  · rw [show wnN l n = 0 by unfold wnN; rw [if_pos h], show wnB l n = false by unfold wnB; simp [h]]
    by_cases h1 : n < 1
    · clear h
      go_enter Try.func18, Try.ntmps18
      go_wp2
      go_ret2
      exact ⟨rfl, by repeat (first | exact Below.refl _ _ | assumption | refine Below.alloc ?_ (by first | (simp; done) | (simp; omega) | omega) _ | refine Below.setCell ?_ (by first | (simp; done) | (simp; omega) | omega) _ | apply Below.drew | refine Below.trans ?_ (Below.mono (by assumption) (by first | (simp; done) | (simp; omega) | omega)))⟩
    by_cases h2 : l < 0
    · clear h
      go_enter Try.func18, Try.ntmps18
      go_wp2
      go_ret2
      exact ⟨rfl, by repeat (first | exact Below.refl _ _ | assumption | refine Below.alloc ?_ (by first | (simp; done) | (simp; omega) | omega) _ | refine Below.setCell ?_ (by first | (simp; done) | (simp; omega) | omega) _ | apply Below.drew | refine Below.trans ?_ (Below.mono (by assumption) (by first | (simp; done) | (simp; omega) | omega)))⟩
    · have h3 : n ≤ l := by omega
      clear h
      go_enter Try.func18, Try.ntmps18
      go_wp2
      go_ret2
      exact ⟨rfl, by repeat (first | exact Below.refl _ _ | assumption | refine Below.alloc ?_ (by first | (simp; done) | (simp; omega) | omega) _ | refine Below.setCell ?_ (by first | (simp; done) | (simp; omega) | omega) _ | apply Below.drew | refine Below.trans ?_ (Below.mono (by assumption) (by first | (simp; done) | (simp; omega) | omega)))⟩
  · have h1 : ¬ n < 1 := fun x => h (.inl x)
    have h2 : ¬ l < 0 := fun x => h (.inr (.inl x))
    have h3 : ¬ n ≤ l := fun x => h (.inr (.inr x))
    rw [show wnB l n = true by unfold wnB; simp [h]]
    by_cases h4 : l = 0
    · have hb : (l == 0) = true := by simpa using h4
      by_cases h5 : n ≤ 16
      · rw [show wnN l n = 16 by unfold wnN; rw [if_neg h, if_pos ⟨h4, h5⟩]]
        subst h4
        clear h
        go_enter Try.func18, Try.ntmps18
        go_wp2
        go_ret2
        exact ⟨rfl, by repeat (first | exact Below.refl _ _ | assumption | refine Below.alloc ?_ (by first | (simp; done) | (simp; omega) | omega) _ | refine Below.setCell ?_ (by first | (simp; done) | (simp; omega) | omega) _ | apply Below.drew | refine Below.trans ?_ (Below.mono (by assumption) (by first | (simp; done) | (simp; omega) | omega)))⟩
      · rw [show wnN l n = 0 by unfold wnN; rw [if_neg h, if_neg (fun x => h5 x.2)]]
        subst h4
        clear h
        go_enter Try.func18, Try.ntmps18
        go_wp2
        go_ret2
        exact ⟨rfl, by repeat (first | exact Below.refl _ _ | assumption | refine Below.alloc ?_ (by first | (simp; done) | (simp; omega) | omega) _ | refine Below.setCell ?_ (by first | (simp; done) | (simp; omega) | omega) _ | apply Below.drew | refine Below.trans ?_ (Below.mono (by assumption) (by first | (simp; done) | (simp; omega) | omega)))⟩
    · have hb : (l == 0) = false := by simpa using h4
      rw [show wnN l n = 0 by unfold wnN; rw [if_neg h, if_neg (fun x => h4 x.1)]]
      clear h h4
      go_enter Try.func18, Try.ntmps18
      go_wp2
      go_ret2
      exact ⟨rfl, by repeat (first | exact Below.refl _ _ | assumption | refine Below.alloc ?_ (by first | (simp; done) | (simp; omega) | omega) _ | refine Below.setCell ?_ (by first | (simp; done) | (simp; omega) | omega) _ | apply Below.drew | refine Below.trans ?_ (Below.mono (by assumption) (by first | (simp; done) | (simp; omega) | omega)))⟩

set_option maxHeartbeats 2000000 in
theorem empty_any (t sp : Int) (A : Option Addr) (len cap : Nat) (S : Nat → ByteArray) (hlen : len ≤ 1000) (hS : ∀ i, i < len → (S i).size ≤ 100) (s : Int) (w : World) (H : ShOk w A len S) :
    Calls Try.prog 10 #[.agg #[.int .i64 t, .int .i64 sp, .slice A len cap], .int .i64 s] w
      fun e w' => e = .returned (.tuple #[.agg #[.int .i64 (if rgtB t sp len S s 0 0 = true then s else 0), .int .i64 0, .int .i64 0], .int .i64 (if rgtB t sp len S s 0 0 = true then 0 else 2)]) ∧ Below w.heap.size w w' := by
  have c1 := hide (fun W (hW : Below w.heap.size w W) => byChk_any t sp A len cap S hlen hS s 0 0 (by omega) W (H.keep hW))
  clear H hS
  cases e : rgtB t sp len S s 0 0 with
  | true =>
    rw [e] at c1
    rw [if_pos rfl] at c1
    rw [if_pos rfl, if_pos rfl]
    clear e
    go_enter Try.func10, Try.ntmps10
    go_wp2_with fail
    refine (unhide c1 _ (by repeat (first | exact Below.refl _ _ | assumption | refine Below.alloc ?_ (by first | (simp; done) | (simp; omega) | omega) _ | refine Below.setCell ?_ (by first | (simp; done) | (simp; omega) | omega) _ | apply Below.drew | refine Below.trans ?_ (Below.mono (by assumption) (by first | (simp; done) | (simp; omega) | omega))))).mono ?_
    rintro e w2 ⟨rfl, hw2⟩; obtain ⟨hcw2, hfw2⟩ := bcell hw2; (try (simp only [World.size_drew, World.cell?_drew, World.frozen?_drew] at hcw2 hfw2)); have hzw2 := hw2.size; (try (simp only [World.size_alloc, World.size_setCell, World.size_drew] at hzw2)); (try (have hzw2_w_0 : w.heap.size < w2.heap.size := by omega)); (try (have hzw2_w_1 : w.heap.size + 1 < w2.heap.size := by omega)); (try (have hzw2_w_2 : w.heap.size + 1 + 1 < w2.heap.size := by omega)); (try (have hzw2_w_3 : w.heap.size + 1 + 1 + 1 < w2.heap.size := by omega)); (try (have hyw2_w : w.heap.size ≤ w2.heap.size := by omega)); (try (have hyw2_wa : w.heap.size + 1 ≤ w2.heap.size := by omega))
    have B2 : Below w.heap.size w w2 := by repeat (first | exact Below.refl _ _ | assumption | refine Below.alloc ?_ (by first | (simp; done) | (simp; omega) | omega) _ | refine Below.setCell ?_ (by first | (simp; done) | (simp; omega) | omega) _ | apply Below.drew | refine Below.trans ?_ (Below.mono (by assumption) (by first | (simp; done) | (simp; omega) | omega)))
    go_wp2
    refine bodyPost_ret (v := .tuple #[.agg #[.int .i64 s, .int .i64 0, .int .i64 0], .int .i64 0]) (by simp only [results, Try.results10]; go_simp) rfl ?_
    refine ⟨rfl, ?_⟩
    repeat (first | exact Below.refl _ _ | assumption | refine Below.alloc ?_ (by first | (simp; done) | (simp; omega) | omega) _ | refine Below.setCell ?_ (by first | (simp; done) | (simp; omega) | omega) _ | apply Below.drew | refine Below.trans ?_ (Below.mono (by assumption) (by first | (simp; done) | (simp; omega) | omega)))
  | false =>
    rw [e] at c1
    rw [if_neg (by simp)] at c1
    rw [if_neg (by simp), if_neg (by simp)]
    clear e
    go_enter Try.func10, Try.ntmps10
    go_wp2_with fail
    refine (unhide c1 _ (by repeat (first | exact Below.refl _ _ | assumption | refine Below.alloc ?_ (by first | (simp; done) | (simp; omega) | omega) _ | refine Below.setCell ?_ (by first | (simp; done) | (simp; omega) | omega) _ | apply Below.drew | refine Below.trans ?_ (Below.mono (by assumption) (by first | (simp; done) | (simp; omega) | omega))))).mono ?_
    rintro e w2 ⟨rfl, hw2⟩; obtain ⟨hcw2, hfw2⟩ := bcell hw2; (try (simp only [World.size_drew, World.cell?_drew, World.frozen?_drew] at hcw2 hfw2)); have hzw2 := hw2.size; (try (simp only [World.size_alloc, World.size_setCell, World.size_drew] at hzw2)); (try (have hzw2_w_0 : w.heap.size < w2.heap.size := by omega)); (try (have hzw2_w_1 : w.heap.size + 1 < w2.heap.size := by omega)); (try (have hzw2_w_2 : w.heap.size + 1 + 1 < w2.heap.size := by omega)); (try (have hzw2_w_3 : w.heap.size + 1 + 1 + 1 < w2.heap.size := by omega)); (try (have hyw2_w : w.heap.size ≤ w2.heap.size := by omega)); (try (have hyw2_wa : w.heap.size + 1 ≤ w2.heap.size := by omega))
    have B2 : Below w.heap.size w w2 := by repeat (first | exact Below.refl _ _ | assumption | refine Below.alloc ?_ (by first | (simp; done) | (simp; omega) | omega) _ | refine Below.setCell ?_ (by first | (simp; done) | (simp; omega) | omega) _ | apply Below.drew | refine Below.trans ?_ (Below.mono (by assumption) (by first | (simp; done) | (simp; omega) | omega)))
    go_wp2
    refine bodyPost_ret (v := .tuple #[.agg #[.int .i64 0, .int .i64 0, .int .i64 0], .int .i64 2]) (by simp only [results, Try.results10]; go_simp) rfl ?_
    refine ⟨rfl, ?_⟩
    repeat (first | exact Below.refl _ _ | assumption | refine Below.alloc ?_ (by first | (simp; done) | (simp; omega) | omega) _ | refine Below.setCell ?_ (by first | (simp; done) | (simp; omega) | omega) _ | apply Below.drew | refine Below.trans ?_ (Below.mono (by assumption) (by first | (simp; done) | (simp; omega) | omega)))
end Go.Proofs.Ytkmoefijncjlhaa
