/- As Rs, within a round of a range over a function. No program in sight. -/
import Derived.Test.YtbkaopeajjechaaRi
import Derived.Test.YtbkaopeajjechaaRs
namespace Go.Proofs.Ytbkaopeajjechaa
set_option linter.unusedVariables false
set_option linter.unusedSimpArgs false
open Go.RowKit

section
variable {P : Program} {L : List Oper} {Q : Exit → Act → World → Prop} {C : World → Prop} {l n : Nat}

theorem wpIn_region_side (κ : List Nat) (k : Nat) {id : Nat} {a : Act} {w : World} (hm : P.follows .mixedOrders = true) (hB : sideB L κ k = true) (hd : noDefer L = true) (hQ : ¬ LetsOut Q) (hC : C w.drew)
    (h : wpQuiet P (diesOps L (kblk κ)).toArray C (fun a' => sideWp P C a' (fun ps U => wpList P L.toArray Q (L.drop k) (applyP ps a') U) ((sideIdx κ k).filterMap fun i => L[i]?) [] w.drew) (diesOps L (kblk κ)) a) : (Code.region id L.toArray true).wpIn (Fence.wide.inRound l) n P Q a w := by
  have hD := Side.of hB
  refine wpIn_any hm hd hQ ?_
  have hlx := hD.lex
  simp only [Region.lexB, Bool.and_eq_true] at hlx
  obtain ⟨af, h1, h2⟩ := quiet_end _ _ h
  have hl := wpAnyQ_lex (C := C) (md := .any) hlx.1 (diesOps L (kblk κ)) 0 (Array.replicate (diesOps L (kblk κ)).length false) a (by simp) (by simpa using hlx.2) h2
  have := side_any (Q := Q) hD _ (Array.replicate (diesOps L (kblk κ)).length false) a [] [] (sideIdx κ k) w.drew hC (by simp [sideOps_len hD]) ?_ ?_ rfl (fun i hi => by cases hi) ?_ (fun p hp => by cases hp) h1 hl
  · rw [sideOps_len hD] at this
    rw [show applyP [] a = a from rfl] at this
    simpa using this
  · intro s o ho hl e he hb
    rw [Array.getElem?_replicate] at hl
    split at hl <;> simp at hl
  · intro i hi hil
    simp [sideOps_len hD, hil]
  · intro i hi
    unfold sideIdx at hi
    simp only [List.mem_filter, List.mem_range] at hi
    have := hD.forced.lt
    have h2 : i < L.length := by omega
    simp [sideOps_len hD, h2]

/-- .. at the later worlds of w0. -/
theorem wpIn_region_side_later (κ : List Nat) (k : Nat) (w0 : World) {id : Nat} {a : Act} {w : World} (hm : P.follows .mixedOrders = true) (hB : sideB L κ k = true) (hd : noDefer L = true) (hQ : ¬ LetsOut Q) (hC : Below w0.heap.size w0 w.drew)
    (h : wpQuiet P (diesOps L (kblk κ)).toArray (fun U => ∃ s : Later w0, U = s.val) (fun a' => sideWp P (fun U => Below w0.heap.size w0 U) a' (fun ps U => wpList P L.toArray Q (L.drop k) (applyP ps a') U) ((sideIdx κ k).filterMap fun i => L[i]?) [] w.drew) (diesOps L (kblk κ)) a) : (Code.region id L.toArray true).wpIn (Fence.wide.inRound l) n P Q a w := by
  refine wpIn_region_side (C := fun U => ∃ s : Later w0, U = s.val) κ k hm hB hd hQ (Later.iff.2 hC) ?_
  have e : (fun U => ∃ s : Later w0, U = s.val) = (fun U => Below w0.heap.size w0 U) := funext fun U => propext Later.iff
  rw [e] at h ⊢
  exact h
end
end Go.Proofs.Ytbkaopeajjechaa
