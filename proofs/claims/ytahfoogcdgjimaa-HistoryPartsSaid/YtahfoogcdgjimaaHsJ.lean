/- Package history: when a call may follow (no walk). -/
import Derived.Test.YtahfoogcdgjimaaHsI
namespace Go.Proofs.Ytahfoogcdgjimaa
set_option linter.unusedVariables false
set_option linter.unusedSimpArgs false
open Go.RowKit

/-- The last call below k of a thread. -/
def lastOf (c : Nat → Nat → Int) (t : Int) : Nat → Option Nat
  | 0 => none
  | k + 1 => if c k 0 = t then some k else lastOf c t k

/-- How often a step was seen in the calls below k. -/
def cnt (c : Nat → Nat → Int) (d : Nat → Bool) (s : Int) : Nat → Nat
  | 0 => 0
  | k + 1 => cnt c d s k + (if c k 12 = s then 1 else 0) + (if d k = true ∧ c k 13 ≠ c k 12 ∧ c k 13 = s then 1 else 0)

/-- May call k follow the calls below it? -/
def Good (c : Nat → Nat → Int) (b d : Nat → Bool) (n : Int) (k : Nat) : Prop :=
  oneB (c k) (b k) (d k) n = true ∧ (0 < k → c (k - 1) 12 < c k 12) ∧ (∀ j, lastOf c (c k 0) k = some j → ahdB (c j) (d j) (c k) = true) ∧
  cnt c d (c k 12) k = 0 ∧ (d k = true → c k 13 ≠ c k 12 → cnt c d (c k 13) k = 0)

theorem lastOf_some {c : Nat → Nat → Int} {t : Int} : ∀ {k j : Nat}, lastOf c t k = some j → j < k ∧ c j 0 = t ∧ ∀ i, j < i → i < k → c i 0 ≠ t
  | 0, j, h => by cases h
  | k + 1, j, h => by
    rw [lastOf] at h
    split at h
    · cases h
      exact ⟨by omega, by assumption, fun i h1 h2 => by omega⟩
    · obtain ⟨h1, h2, h3⟩ := lastOf_some h
      refine ⟨by omega, h2, fun i a b => ?_⟩
      by_cases e : i = k
      · subst e; assumption
      · exact h3 i a (by omega)

theorem lastOf_none {c : Nat → Nat → Int} {t : Int} : ∀ {k : Nat}, lastOf c t k = none → ∀ i, i < k → c i 0 ≠ t
  | 0, _, i, hi => by omega
  | k + 1, h, i, hi => by
    rw [lastOf] at h
    split at h
    · cases h
    · by_cases e : i = k
      · subst e; assumption
      · exact lastOf_none h i (by omega)

theorem cnt_zero {c : Nat → Nat → Int} {d : Nat → Bool} {s : Int} : ∀ {k : Nat}, cnt c d s k = 0 ↔ ∀ j, j < k → hasB (c j) (d j) s = false
  | 0 => ⟨fun _ j hj => by omega, fun _ => rfl⟩
  | k + 1 => by
    have ih := cnt_zero (c := c) (d := d) (s := s) (k := k)
    have hk : hasB (c k) (d k) s = false ↔ (¬ c k 12 = s) ∧ ¬ (d k = true ∧ c k 13 = s) := by
      unfold hasB; cases d k <;> simp
    constructor
    · intro h j hj
      rw [cnt] at h
      have h1 : cnt c d s k = 0 := by omega
      have h2 : ¬ c k 12 = s := by intro e; rw [if_pos e] at h; omega
      by_cases e : j = k
      · subst e
        rw [hk]
        refine ⟨h2, fun ⟨a, b⟩ => ?_⟩
        rw [if_pos (show d j = true ∧ c j 13 ≠ c j 12 ∧ c j 13 = s from ⟨a, by omega, b⟩)] at h
        omega
      · exact ih.1 h1 j (by omega)
    · intro h
      have h1 := ih.2 (fun j hj => h j (by omega))
      have h2 := hk.1 (h k (by omega))
      rw [cnt, h1, if_neg h2.1, if_neg (fun hh => h2.2 ⟨hh.1, hh.2.2⟩)]

theorem twoB_iff (a : Nat → Int) (d : Bool) (a' : Nat → Int) (d' : Bool) : twoB a d a' d' = true ↔ a 12 < a' 12 ∧ hasB a' d' (a 12) = false ∧ (d = true → hasB a' d' (a 13) = false) ∧ (a 0 = a' 0 → ahdB a d a' = true) := by
  unfold twoB
  cases d <;> cases hasB a' d' (a 12) <;> cases hasB a' d' (a 13) <;> by_cases h0 : a 0 = a' 0 <;> simp [h0]

theorem has_sym (a : Nat → Int) (d : Bool) (a' : Nat → Int) (d' : Bool) :
    (hasB a d (a' 12) = false ∧ (d' = true → hasB a d (a' 13) = false)) ↔ (hasB a' d' (a 12) = false ∧ (d = true → hasB a' d' (a 13) = false)) := by
  unfold hasB
  cases d <;> cases d' <;> simp <;> omega

theorem hist_good {c : Nat → Nat → Int} {b d : Nat → Bool} {n : Int} {k : Nat} (h : HistTo c b d n k) : HistTo c b d n (k + 1) ↔ Good c b d n k := by
  constructor
  · intro hh
    obtain ⟨h1, h2⟩ := hh k (by omega)
    have h3 := fun j hj => (twoB_iff _ _ _ _).1 (h2 j hj)
    have h4 := fun j hj => (has_sym (c j) (d j) (c k) (d k)).2 ⟨(h3 j hj).2.1, (h3 j hj).2.2.1⟩
    refine ⟨h1, fun hk => (h3 (k - 1) (by omega)).1, fun j hj => ?_, cnt_zero.2 (fun j hj => (h4 j hj).1), fun hd _ => cnt_zero.2 (fun j hj => (h4 j hj).2 hd)⟩
    obtain ⟨q1, q2, _⟩ := lastOf_some hj
    exact (h3 j q1).2.2.2 q2
  · rintro ⟨g1, g2, g3, g4, g5⟩ i hi
    by_cases e : i = k
    · subst e
      refine ⟨g1, fun j hj => (twoB_iff _ _ _ _).2 ?_⟩
      have hlt : c j 12 < c i 12 := by
        have q := g2 (by omega)
        by_cases e : j = i - 1
        · rw [e]; exact q
        · have := ((twoB_iff _ _ _ _).1 ((h (i - 1) (by omega)).2 j (by omega))).1
          omega
      have hs : hasB (c j) (d j) (c i 12) = false ∧ (d i = true → hasB (c j) (d j) (c i 13) = false) := by
        have q := cnt_zero.1 g4 j hj
        refine ⟨q, fun hd => ?_⟩
        by_cases e : c i 13 = c i 12
        · rw [e]; exact q
        · exact cnt_zero.1 (g5 hd e) j hj
      obtain ⟨s1, s2⟩ := (has_sym (c j) (d j) (c i) (d i)).1 hs
      refine ⟨hlt, s1, s2, fun ht => ?_⟩
      cases hl : lastOf c (c i 0) i with
      | none => exact absurd ht (lastOf_none hl j hj)
      | some m =>
        obtain ⟨m1, m2, m3⟩ := lastOf_some hl
        have q := g3 m hl
        by_cases e : j = m
        · rw [e]; exact q
        · have hjm : j < m := by
            rcases Nat.lt_trichotomy j m with h | h | h
            · exact h
            · exact absurd h e
            · exact absurd ht (m3 j h hj)
          obtain ⟨_, _, _, t⟩ := (twoB_iff _ _ _ _).1 ((h m m1).2 j hjm)
          have t2 := t (ht.trans m2.symm)
          have hm : c m 12 < c i 12 := by
            have q := g2 (by omega)
            by_cases e : m = i - 1
            · rw [e]; exact q
            · have := ((twoB_iff _ _ _ _).1 ((h (i - 1) (by omega)).2 m (by omega))).1
              omega
          unfold ahdB at t2 ⊢
          simp only [Bool.and_eq_true, decide_eq_true_eq] at t2 ⊢
          exact ⟨t2.1, by omega⟩
    · exact h i (by omega)
end Go.Proofs.Ytahfoogcdgjimaa
