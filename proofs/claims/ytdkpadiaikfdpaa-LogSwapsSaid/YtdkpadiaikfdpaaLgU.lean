/- What is known of the words behind steps that are all right. No program's step is walked here but End's. -/
import Derived.Test.YtdkpadiaikfdpaaLgH
import Derived.Test.YtdkpadiaikfdpaaLgK
import Derived.Test.YtdkpadiaikfdpaaLgV
namespace Go.Proofs.Ytdkpadiaikfdpaa
set_option linter.unusedVariables false
set_option linter.unusedSimpArgs false
open Go.RowKit

/-- A right step either stores its word, which is there, or changes nothing. -/
theorem ok_step {m : Nat} {z : Nat → Int} {st : Nat → Nat → Int} {k : Nat} (h : okS m z st k = true) :
    (stoB (st k 1) (st k 3) (st k 5) = true ∧ 0 ≤ st k 2 ∧ st k 2 < (m : Int) ∧ aft m z st (k + 1) = upd (aft m z st k) (st k 2).toNat (st k 4)) ∨ (stoB (st k 1) (st k 3) (st k 5) = false ∧ aft m z st (k + 1) = aft m z st k) := by
  show (_ ∧ _ ∧ _ ∧ doX m (aft m z st k) (st k 1) (st k 2) (st k 3) (st k 4) = _) ∨ (_ ∧ doX m (aft m z st k) (st k 1) (st k 2) (st k 3) (st k 4) = _)
  unfold okS at h
  generalize aft m z st k = xs at *
  simp only [Bool.and_eq_true, decide_eq_true_eq] at h
  obtain ⟨hE, hD⟩ := h
  by_cases hs : st k 1 = 2 ∨ (st k 1 = 3 ∧ xs (st k 2).toNat = st k 3)
  · left
    have hk : st k 1 ≠ 0 := by omega
    have hr : 0 ≤ st k 2 ∧ st k 2 < (m : Int) := by
      have hE' := hE
      unfold doE at hE'
      split at hE'
      · (try rw [if_neg hk] at hE')
        split at hE' <;> omega
      · omega
    refine ⟨?_, hr.1, hr.2, by unfold doX; rw [if_pos ⟨hE, hs⟩]⟩
    simp only [stoB, decide_eq_true_eq]
    rcases hs with h2 | ⟨h3, h4⟩
    · exact .inl h2
    · refine .inr ⟨h3, ?_⟩
      rw [← hD]
      unfold doA
      rw [if_pos ⟨hE, .inr h3⟩]
      exact h4
  · right
    refine ⟨?_, by unfold doX; rw [if_neg (fun h => hs h.2)]⟩
    simp only [stoB, decide_eq_false_iff_not]
    rintro (h2 | ⟨h3, h4⟩)
    · exact hs (.inl h2)
    · refine hs (.inr ⟨h3, ?_⟩)
      rw [← h4, ← hD]
      unfold doA
      rw [if_pos ⟨hE, .inr h3⟩]

/-- A word is as it was, or what the last step stores. -/
theorem aft_last {m : Nat} {z : Nat → Int} {st : Nat → Nat → Int} (x : Nat) : ∀ L, (∀ i, i < L → okS m z st i = true) →
    aft m z st L x = if 0 ≤ lst (pLa st x) L then st (lst (pLa st x) L).toNat 4 else z x
  | 0, _ => by simp [aft, lst]
  | L + 1, h => by
    have ih := aft_last x L (fun i hi => h i (by omega))
    rcases ok_step (h L (by omega)) with ⟨h1, h2, h3, h4⟩ | ⟨h1, h2⟩
    · rw [h4]
      by_cases e : st L 2 = (x : Int)
      · have hp : pLa st x L = true := by simp [pLa, e, h1]
        rw [lst, hp, if_pos rfl, if_pos (by omega)]
        simp [upd, e]
      · have hp : pLa st x L = false := by simp [pLa, e]
        rw [show lst (pLa st x) (L + 1) = lst (pLa st x) L by rw [lst, hp]; rfl]
        unfold upd
        rw [if_neg (by omega)]
        exact ih
    · have hp : pLa st x L = false := by simp [pLa, h1]
      rw [h2, show lst (pLa st x) (L + 1) = lst (pLa st x) L by rw [lst, hp]; rfl]
      exact ih

/-- What End answers, in short. -/
def EndSome (e : Ending) : Prop := ∃ v E, e = .returned (.tuple #[v, .int .i64 E])

theorem end_some (A : Option Addr) (len cap : Nat) (A2 : Option Addr) (len2 cap2 : Nat) (st : Nat → Nat → Int) (hm : len ≤ 9223372036854775807) (hm2 : len2 ≤ 9223372036854775807) (b o : Nat) (z : Nat → Int) (w : World)
    (hA : 0 < len → A = some ⟨b, o, none⟩ ∧ b < w.heap.size) (hc : ∀ i, i < len → w.cell? ⟨b, o + i, none⟩ = some (.int .u64 (z i))) (hS : StOk w A2 len2 st) :
    Calls Try.prog 12 #[.slice A len cap, .slice A2 len2 cap2] w fun e w' => EndSome e ∧ Below w.heap.size w w' := by
  by_cases h : 1 ≤ len ∧ len ≤ 16384
  · obtain ⟨rfl, hb⟩ := hA (by omega)
    refine (end_yes b o len cap z h.1 h.2 A2 len2 cap2 st hm2 w hb hc hS).mono ?_
    rintro e w' ⟨⟨_, b', c, rfl, _⟩ | ⟨_, rfl⟩, hB⟩
    · exact ⟨⟨_, _, rfl⟩, hB⟩
    · exact ⟨⟨_, _, rfl⟩, hB⟩
  · refine (end_no A len cap hm h A2 len2 cap2 w).mono ?_
    rintro e w' ⟨rfl, hB⟩
    exact ⟨⟨_, _, rfl⟩, hB⟩
end Go.Proofs.Ytdkpadiaikfdpaa
