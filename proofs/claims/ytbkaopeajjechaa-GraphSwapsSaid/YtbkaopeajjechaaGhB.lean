/- GraphSwaps, plainly: operations of slots alone, of two threads, may change places. No walk in sight. -/
import Derived.Test.YtbkaopeajjechaaGuC
namespace Go.Proofs.Ytbkaopeajjechaa
set_option linter.unusedVariables false
set_option linter.unusedSimpArgs false
open Go.RowKit

section
variable {T : Nat} {len : Nat} {S : Nat → ByteArray} {G : Gr}

theorem Gr.ext' {A B : Gr} (h1 : A.n = B.n) (h2 : A.root = B.root) (h3 : A.sh = B.sh) (h4 : A.fl = B.fl) : A = B := by
  cases A
  cases B
  simp_all

theorem err_sl (X : Gr) (t : Nat) {z : Nat → Int} (hz : z 0 = 8 ∨ z 0 = 9 ∨ z 0 = 10) : X.err len S t z = opE len S z := by
  unfold Gr.err
  by_cases h : opE len S z = 0
  · rw [if_neg (by rw [h]; simp), if_pos (.inr (by omega)), h]
  · rw [if_pos h]

/-- What such an operation does: nothing, or another number in a slot, from that thread's slots. -/
theorem did_sl (t : Nat) {z : Nat → Int} (hz : z 0 = 8 ∨ z 0 = 9 ∨ z 0 = 10) : (∀ X : Gr, X.did t z = X) ∨ (∃ (s : Nat) (f : (Nat → Nat) → Nat), ∀ X : Gr, X.did t z = X.slot t s (f (X.root t))) := by
  rcases hz with h | h | h
  · left
    intro X
    unfold Gr.did
    rw [if_neg (by omega), if_neg (by omega), if_neg (by omega), if_neg (by omega), if_neg (by omega), if_neg (by omega), if_neg (by omega), if_neg (by omega)]
  · right
    refine ⟨(z 1).toNat, fun r => r (z 2).toNat, fun X => ?_⟩
    unfold Gr.did
    rw [if_neg (by omega), if_neg (by omega), if_neg (by omega), if_neg (by omega), if_neg (by omega), if_neg (by omega), if_pos h]
  · right
    refine ⟨(z 1).toNat, fun _ => 0, fun X => ?_⟩
    unfold Gr.did
    rw [if_neg (by omega), if_neg (by omega), if_neg (by omega), if_neg (by omega), if_neg (by omega), if_neg (by omega), if_neg (by omega), if_pos h]

theorem go_sl (t : Int) {z : Nat → Int} (hz : z 0 = 8 ∨ z 0 = 9 ∨ z 0 = 10) : (∀ X : Gr, X.go len S T t z = X) ∨ (∃ (n : Nat) (s : Nat) (f : (Nat → Nat) → Nat), t = (n : Int) ∧ ∀ X : Gr, X.go len S T t z = X.slot n s (f (X.root n))) := by
  by_cases h : 0 ≤ t ∧ t < (T : Int)
  · by_cases he : opE len S z = 0
    · have e : ∀ X : Gr, X.go len S T t z = X.did t.toNat z := fun X => by
        unfold Gr.go Gr.next
        rw [if_pos h, err_sl X _ hz, if_pos he]
      rcases did_sl t.toNat hz with h1 | ⟨s, f, h1⟩
      · left
        intro X
        rw [e, h1]
      · right
        refine ⟨t.toNat, s, f, by omega, fun X => ?_⟩
        rw [e, h1]
    · left
      intro X
      unfold Gr.go Gr.next
      rw [if_pos h, err_sl X _ hz, if_neg he]
  · left
    intro X
    unfold Gr.go
    rw [if_neg h]

/-- The statement, plainly. -/
theorem swaps_plain (t u : Int) (z y : Nat → Int) (htu : t ≠ u) (hz : z 0 = 8 ∨ z 0 = 9 ∨ z 0 = 10) (hy : y 0 = 8 ∨ y 0 = 9 ∨ y 0 = 10) :
    ((G.go len S T u y).aE len S T t z = G.aE len S T t z ∧ (G.go len S T u y).aI len S T t z = G.aI len S T t z ∧ (G.go len S T u y).aV len S T t z = G.aV len S T t z) ∧
    (G.go len S T t z).go len S T u y = (G.go len S T u y).go len S T t z := by
  have hroot : 0 ≤ t → (G.go len S T u y).root t.toNat = G.root t.toNat := fun h0 => by
    rcases go_sl (len := len) (S := S) (T := T) u hy with h1 | ⟨n, s, f, h1, h2⟩
    · rw [h1]
    · rw [h2]
      funext q
      show (if t.toNat = n ∧ q = s then _ else G.root t.toNat q) = _
      rw [if_neg (by omega)]
  refine ⟨⟨?_, ?_, ?_⟩, ?_⟩
  · unfold Gr.aE
    rw [err_sl _ _ hz, err_sl _ _ hz]
  · unfold Gr.aI
    rw [err_sl _ _ hz, err_sl _ _ hz]
    by_cases h : 0 ≤ t ∧ t < (T : Int)
    · rw [if_pos h, if_pos h]
      have : (G.go len S T u y).is t.toNat z = G.is t.toNat z := by
        unfold Gr.is
        simp only [if_neg (show ¬ z 0 = 2 by omega), if_neg (show ¬ z 0 = 4 by omega), if_neg (show ¬ z 0 = 7 by omega), hroot h.1]
      rw [this]
    · rw [if_neg h, if_neg h]
  · unfold Gr.aV
    rw [err_sl _ _ hz, err_sl _ _ hz]
    have : ∀ X : Gr, X.val t.toNat z = 0 := fun X => by
      unfold Gr.val
      rw [if_neg (by omega)]
    rw [this, this]
  · rcases go_sl (len := len) (S := S) (T := T) u hy with h1 | ⟨n, s, f, h1, h2⟩
    · rw [h1, h1]
    · rcases go_sl (len := len) (S := S) (T := T) t hz with h3 | ⟨n', s', f', h3, h4⟩
      · rw [h3, h3]
      · have hne : n ≠ n' := by omega
        rw [h4, h2, h2, h4]
        have r1 : (G.slot n' s' (f' (G.root n'))).root n = G.root n := by
          funext q
          show (if n = n' ∧ q = s' then _ else G.root n q) = _
          rw [if_neg (fun e => hne e.1)]
        have r2 : (G.slot n s (f (G.root n))).root n' = G.root n' := by
          funext q
          show (if n' = n ∧ q = s then _ else G.root n' q) = _
          rw [if_neg (fun e => hne e.1.symm)]
        rw [r1, r2]
        refine Gr.ext' rfl ?_ rfl rfl
        funext a b
        show (if a = n ∧ b = s then f (G.root n) else if a = n' ∧ b = s' then f' (G.root n') else G.root a b) = (if a = n' ∧ b = s' then f' (G.root n') else if a = n ∧ b = s then f (G.root n) else G.root a b)
        by_cases e1 : a = n ∧ b = s
        · rw [if_pos e1, if_neg (fun e => hne (e1.1.symm.trans e.1)), if_pos e1]
        · rw [if_neg e1, if_neg e1]
end
end Go.Proofs.Ytbkaopeajjechaa
