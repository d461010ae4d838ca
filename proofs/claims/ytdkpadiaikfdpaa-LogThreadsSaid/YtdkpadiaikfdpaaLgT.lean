/- The places of a thread's steps, and of a word's: new memory; how often each place comes. -/
import Derived.Test.YtdkpadiaikfdpaaLgB
namespace Go.Proofs.Ytdkpadiaikfdpaa
set_option linter.unusedVariables false
set_option linter.unusedSimpArgs false
open Go.RowKit

theorem RdL.of_own2 {w : World} {base : Nat} {e : TypeId} {k : IntKind} {v : Value} {L : List Int} (h : w.ownsRow base e 1 v L.length (L.map (Value.int k))) :
    ∃ A cap, v = .slice A L.length cap ∧ (0 < L.length → ∃ b, A = some ⟨b, 0, none⟩ ∧ base ≤ b ∧ b < w.heap.size ∧ ∀ i, i < L.length → w.cell? ⟨b, i, none⟩ = some (.int k (L.getD i 0))) := by
  by_cases h0 : L.length = 0
  · obtain ⟨A, cap, e, _⟩ := RdL.of_own h
    exact ⟨A, cap, e, fun h => absurd h (by omega)⟩
  · obtain ⟨g, cap, rfl, hb, hlt⟩ := h.form (by omega)
    refine ⟨_, cap, rfl, fun _ => ⟨g, rfl, hb, hlt, fun i hi => ?_⟩⟩
    have hk := h.cells (g := g) rfl i (.int k (L.getD i 0)) (by
      rw [List.getElem?_map, List.getElem?_eq_getElem hi]
      simp [List.getD, hi])
    rw [show (⟨g, 0, none⟩ : Addr).add i = ⟨g, i, none⟩ from by unfold Addr.add; split <;> simp_all] at hk
    exact hk

/-- A list of new memory. -/
def NewL (w0 w : World) (A : Option Addr) (L : List Int) : Prop := 0 < L.length → ∃ b, A = some ⟨b, 0, none⟩ ∧ w0.heap.size ≤ b ∧ b < w.heap.size ∧ ∀ i, i < L.length → w.cell? ⟨b, i, none⟩ = some (.int .i64 (L.getD i 0))

theorem NewL.keep {w0 w W : World} {A : Option Addr} {L : List Int} (h : NewL w0 w A L) (hb : Below w.heap.size w W) : NewL w0 W A L := fun h0 => by
  obtain ⟨b, e, h1, h2, h3⟩ := h h0
  exact ⟨b, e, h1, Nat.lt_of_lt_of_le h2 hb.size, fun i hi => (hb.cell (p := ⟨b, i, none⟩) h2).trans (h3 i hi)⟩

theorem NewL.set {w0 w : World} {A : Option Addr} {L : List Int} (h : NewL w0 w A L) {p : Addr} (hp : p.block < w0.heap.size) (v : Value) : NewL w0 (w.setCell p v) A L := fun h0 => by
  obtain ⟨b, e, h1, h2, h3⟩ := h h0
  exact ⟨b, e, h1, by simpa using h2, fun i hi => by
    rw [World.cell?_setCell_other _ _ _ _ (fun e => by subst e; simp at hp; omega)]
    exact h3 i hi⟩

set_option maxHeartbeats 2000000 in
theorem of_new (A : Option Addr) (len cap : Nat) (st : Nat → Nat → Int) (x : Int) (hlen : len ≤ 1000) (w : World) (H : StOk w A len st) :
    Calls Try.prog 21 #[.slice A len cap, .int .i64 x] w fun e w' => ∃ A' c', e = .returned (.slice A' (plc (pOf st x) len).length c') ∧ NewL w w' A' (plc (pOf st x) len) ∧ Below w.heap.size w w' := by
  have c := places_of w.heap.size A len cap st (pOf st x) hlen (w.alloc (.cells #[.int .i64 x] 3)) (H.keep ((Below.refl _ _).alloc (Nat.le_refl _) _))
    (fun W i hi hB => of1_any w.heap.size _ _ _ _ _ _ x W ((hB.cell (p := ⟨w.heap.size, 0, none⟩) (by simp)).trans (by go_simp)) (Nat.lt_of_lt_of_le (by simp) hB.size))
  clear H
  go_enter Try.func21, Try.ntmps21
  go_wp2_with fail
  refine c.mono ?_
  rintro e w1 ⟨v, rfl, ho, hb⟩
  clear c
  obtain ⟨A', c', rfl, hr⟩ := RdL.of_own2 ho
  have HR := hide hr
  have HB := hide hb
  clear hr hb ho
  go_wp2
  go_ret
  refine ⟨A', c', rfl, fun h0 => ?_, by have hb := unhide HB; repeat (first | exact Below.refl _ _ | assumption | refine Below.alloc ?_ (by first | (simp; done) | (simp; omega) | omega) _ | refine Below.setCell ?_ (by first | (simp; done) | (simp; omega) | omega) _ | apply Below.drew | refine Below.trans ?_ (Below.mono (by assumption) (by first | (simp; done) | (simp; omega) | omega)))⟩
  obtain ⟨b, e, h1, h2, h3⟩ := unhide HR h0
  exact ⟨b, e, by simp at h1; omega, h2, h3⟩
set_option maxHeartbeats 2000000 in
theorem touches_new (A : Option Addr) (len cap : Nat) (st : Nat → Nat → Int) (x : Int) (hlen : len ≤ 1000) (w : World) (H : StOk w A len st) :
    Calls Try.prog 23 #[.slice A len cap, .int .i64 x] w fun e w' => ∃ A' c', e = .returned (.slice A' (plc (pTo st x) len).length c') ∧ NewL w w' A' (plc (pTo st x) len) ∧ Below w.heap.size w w' := by
  have c := places_touches w.heap.size A len cap st (pTo st x) hlen (w.alloc (.cells #[.int .i64 x] 3)) (H.keep ((Below.refl _ _).alloc (Nat.le_refl _) _))
    (fun W i hi hB => touches1_any w.heap.size _ _ _ _ _ _ x W ((hB.cell (p := ⟨w.heap.size, 0, none⟩) (by simp)).trans (by go_simp)) (Nat.lt_of_lt_of_le (by simp) hB.size))
  clear H
  go_enter Try.func23, Try.ntmps23
  go_wp2_with fail
  refine c.mono ?_
  rintro e w1 ⟨v, rfl, ho, hb⟩
  clear c
  obtain ⟨A', c', rfl, hr⟩ := RdL.of_own2 ho
  have HR := hide hr
  have HB := hide hb
  clear hr hb ho
  go_wp2
  go_ret
  refine ⟨A', c', rfl, fun h0 => ?_, by have hb := unhide HB; repeat (first | exact Below.refl _ _ | assumption | refine Below.alloc ?_ (by first | (simp; done) | (simp; omega) | omega) _ | refine Below.setCell ?_ (by first | (simp; done) | (simp; omega) | omega) _ | apply Below.drew | refine Below.trans ?_ (Below.mono (by assumption) (by first | (simp; done) | (simp; omega) | omega)))⟩
  obtain ⟨b, e, h1, h2, h3⟩ := unhide HR h0
  exact ⟨b, e, by simp at h1; omega, h2, h3⟩

theorem plc_mem {p : Nat → Bool} : ∀ {n j : Nat}, j < (plc p n).length → ∃ q, q < n ∧ (plc p n).getD j 0 = (q : Int) ∧ p q = true
  | 0, j, h => by simp [plc] at h
  | n + 1, j, h => by
    unfold plc at h ⊢
    cases hp : p n with
    | false =>
      rw [hp] at h
      simp only [Bool.false_eq_true, if_false] at h ⊢
      obtain ⟨q, h1, h2, h3⟩ := plc_mem h
      exact ⟨q, by omega, h2, h3⟩
    | true =>
      rw [hp] at h
      simp only [if_true] at h ⊢
      by_cases hj : j < (plc p n).length
      · obtain ⟨q, h1, h2, h3⟩ := plc_mem hj
        refine ⟨q, by omega, ?_, h3⟩
        rw [← h2]
        simp [List.getD, List.getElem?_append_left hj]
      · have e : j = (plc p n).length := by simp at h; omega
        subst e
        exact ⟨n, by omega, by simp [List.getD], hp⟩

theorem plc_count (p : Nat → Bool) (i : Nat) : ∀ n, (plc p n).count (i : Int) = if i < n ∧ p i = true then 1 else 0
  | 0 => by simp [plc]
  | n + 1 => by
    unfold plc
    have ih := plc_count p i n
    cases hp : p n with
    | false =>
      simp only [Bool.false_eq_true, if_false]
      rw [ih]
      by_cases e : i = n
      · subst e
        simp [hp]
      · have : i < n ↔ i < n + 1 := by omega
        simp [this]
    | true =>
      simp only [if_true]
      rw [List.count_append, ih]
      by_cases e : i = n
      · subst e
        simp [hp]
      · have h1 : i < n ↔ i < n + 1 := by omega
        have h2 : [(n : Int)].count (i : Int) = 0 := by
          rw [List.count_eq_zero]
          simp
          omega
        rw [h2]
        simp [h1]

theorem count_take (L : List Int) (j : Nat) (hj : j < L.length) (x : Int) : ((L.take (j + 1)).count x : Int) = (L.take j).count x + if L.getD j 0 = x then 1 else 0 := by
  rw [List.take_succ_eq_append_getElem hj, List.count_append]
  have e : L.getD j 0 = L[j] := by simp [List.getD, hj]
  rw [e]
  by_cases h : L[j] = x
  · simp [h]
  · simp [h]

theorem count_le (L : List Int) (j : Nat) (x : Int) : ((L.take j).count x : Int) ≤ j := by
  have h1 := List.count_le_length (a := x) (l := L.take j)
  have h2 := List.length_take_le j L
  omega
end Go.Proofs.Ytdkpadiaikfdpaa
