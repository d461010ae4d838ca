/- Do, whatever it is asked: one contract. -/
import Derived.Test.YtbkaopeajjechaaGsA
namespace Go.Proofs.Ytbkaopeajjechaa
set_option linter.unusedVariables false
set_option linter.unusedSimpArgs false
open Go.RowKit Go.Maps

section
variable {T : Nat} {sp : Int} {len : Nat} {S : Nat → ByteArray} {w : World} {L : Lay} {G : Gr}

/-- What an operation of a thread is answered: an error, whether it went well, a number; whether the thread is there; the graph behind it. -/
noncomputable def Gr.aE (len : Nat) (S : Nat → ByteArray) (T : Nat) (G : Gr) (t : Int) (z : Nat → Int) : Int := if 0 ≤ t ∧ t < (T : Int) then G.err len S t.toNat z else 0
noncomputable def Gr.aI (len : Nat) (S : Nat → ByteArray) (T : Nat) (G : Gr) (t : Int) (z : Nat → Int) : Bool := if 0 ≤ t ∧ t < (T : Int) then (if G.err len S t.toNat z = 0 then G.is t.toNat z else false) else false
noncomputable def Gr.aV (len : Nat) (S : Nat → ByteArray) (T : Nat) (G : Gr) (t : Int) (z : Nat → Int) : Int := if 0 ≤ t ∧ t < (T : Int) then (if G.err len S t.toNat z = 0 then G.val t.toNat z else 0) else 0
def aF (T : Nat) (t : Int) : Int := if 0 ≤ t ∧ t < (T : Int) then 0 else 4
noncomputable def Gr.go (len : Nat) (S : Nat → ByteArray) (T : Nat) (G : Gr) (t : Int) (z : Nat → Int) : Gr := if 0 ≤ t ∧ t < (T : Int) then G.next len S t.toNat z else G

theorem Gr.did_n (G : Gr) (t : Nat) (z : Nat → Int) : (G.did t z).n ≤ G.n + 1 ∧ G.n ≤ (G.did t z).n := by
  unfold Gr.did
  split
  · exact ⟨Nat.le_refl _, Nat.le_succ _⟩
  (repeat' split) <;> exact ⟨Nat.le_succ _, Nat.le_refl _⟩

theorem Gr.next_n (G : Gr) (t : Nat) (z : Nat → Int) : (G.next len S t z).n ≤ G.n + 1 ∧ G.n ≤ (G.next len S t z).n := by
  unfold Gr.next
  split
  · exact Gr.did_n G t z
  · exact ⟨Nat.le_succ _, Nat.le_refl _⟩

theorem Gr.go_n (G : Gr) (t : Int) (z : Nat → Int) : (G.go len S T t z).n ≤ G.n + 1 ∧ G.n ≤ (G.go len S T t z).n := by
  unfold Gr.go
  split
  · exact Gr.next_n G _ z
  · exact ⟨Nat.le_succ _, Nat.le_refl _⟩

theorem do_any (H : IsG T sp len S w L G G.n) (hlen : len ≤ 9223372036854775807) (hS : ∀ i, i < len → (S i).size ≤ 9223372036854775807) (hn : G.n < 9223372036854775807) (t : Int) (z : Nat → Int) :
    Calls Try.prog 14 #[.pointer (some ⟨L.g, 0, none⟩), .int .i64 t, opV z] w fun e w' => e = .returned (.tuple #[.agg #[.int .i64 (G.aE len S T t z), .bool (G.aI len S T t z), .int .i64 (G.aV len S T t z)], .int .i64 (aF T t)]) ∧ (∃ L', Lay.Ext L L' w.heap.size ∧ IsG T sp len S w' L' (G.go len S T t z) ((G.go len S T t z).n : Nat)) ∧ Chg L.own w w' := by
  by_cases ht : 0 ≤ t ∧ t < (T : Int)
  · obtain ⟨t', rfl⟩ : ∃ n : Nat, t = (n : Int) := ⟨t.toNat, by omega⟩
    have ht' : t' < T := by omega
    have eE : G.aE len S T (t' : Int) z = G.err len S t' z := by unfold Gr.aE; rw [if_pos ht, Int.toNat_natCast]
    have eG : G.go len S T (t' : Int) z = G.next len S t' z := by unfold Gr.go; rw [if_pos ht, Int.toNat_natCast]
    have eF : aF T (t' : Int) = 0 := by unfold aF; rw [if_pos ht]
    by_cases h0 : opE len S z = 0
    · by_cases he : G.err len S t' z = 0
      · have eI : G.aI len S T (t' : Int) z = G.is t' z := by unfold Gr.aI; rw [if_pos ht, Int.toNat_natCast, if_pos he]
        have eV : G.aV len S T (t' : Int) z = G.val t' z := by unfold Gr.aV; rw [if_pos ht, Int.toNat_natCast, if_pos he]
        have eN : G.next len S t' z = G.did t' z := by unfold Gr.next; rw [if_pos he]
        rw [eE, eI, eV, eF, eG, eN, he]
        exact do_ok H hlen hS t' z ht' h0 hn he
      · have eI : G.aI len S T (t' : Int) z = false := by unfold Gr.aI; rw [if_pos ht, Int.toNat_natCast, if_neg he]
        have eV : G.aV len S T (t' : Int) z = 0 := by unfold Gr.aV; rw [if_pos ht, Int.toNat_natCast, if_neg he]
        have eN : G.next len S t' z = G := by unfold Gr.next; rw [if_neg he]
        rw [eE, eI, eV, eF, eG, eN]
        refine (do_no H hlen hS t' z ht' h0 he).mono ?_
        rintro e w' ⟨h1, h2⟩
        exact ⟨h1, ⟨L, Lay.Ext.refl _ _, H.below h2⟩, Chg.of h2⟩
    · have he : G.err len S t' z = opE len S z := by unfold Gr.err; rw [if_pos h0]
      have he0 : ¬ G.err len S t' z = 0 := by rw [he]; exact h0
      have eI : G.aI len S T (t' : Int) z = false := by unfold Gr.aI; rw [if_pos ht, Int.toNat_natCast, if_neg he0]
      have eV : G.aV len S T (t' : Int) z = 0 := by unfold Gr.aV; rw [if_pos ht, Int.toNat_natCast, if_neg he0]
      have eN : G.next len S t' z = G := by unfold Gr.next; rw [if_neg he0]
      rw [eE, eI, eV, eF, eG, eN, he]
      refine (do_check H hlen hS (t' : Int) z ht h0).mono ?_
      rintro e w' ⟨h1, h2⟩
      exact ⟨h1, ⟨L, Lay.Ext.refl _ _, H.below h2⟩, Chg.of h2⟩
  · have eE : G.aE len S T t z = 0 := by unfold Gr.aE; rw [if_neg ht]
    have eI : G.aI len S T t z = false := by unfold Gr.aI; rw [if_neg ht]
    have eV : G.aV len S T t z = 0 := by unfold Gr.aV; rw [if_neg ht]
    have eG : G.go len S T t z = G := by unfold Gr.go; rw [if_neg ht]
    have eF : aF T t = 4 := by unfold aF; rw [if_neg ht]
    rw [eE, eI, eV, eF, eG]
    refine (do_range H t z (by omega)).mono ?_
    rintro e w' ⟨h1, h2⟩
    exact ⟨h1, ⟨L, Lay.Ext.refl _ _, H.below h2⟩, Chg.of h2⟩
end
end Go.Proofs.Ytbkaopeajjechaa
