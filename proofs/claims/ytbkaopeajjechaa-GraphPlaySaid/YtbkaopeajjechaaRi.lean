/- Regions that draw their order within a round of a range over a function: what is proved of them elsewhere holds there. No program in sight. -/
import Derived.Test.YtbkaopeajjechaaRh
import Derived.OrdersIn
import Derived.RangeFuncCalls
import Derived.RangeFuncWrites
namespace Go.Proofs.Ytbkaopeajjechaa
set_option linter.unusedVariables false
set_option linter.unusedSimpArgs false
open Go.RowKit

section
variable {P : Program} {ops : Array Oper} {L : List Oper} {Q : Exit → Act → World → Prop} {md : Region.Mode} {l n : Nat}

theorem oper_in {o : Oper} {a : Act} {w : World} {K : Act → World → Prop} (hd : ∀ c, o.op ≠ .defer c) (hQ : ¬ LetsOut Q) (h : o.wp P a w K Q) : o.wpIn (Fence.wide.inRound l) n P a w K Q := by
  unfold Oper.wp at h
  unfold Oper.wpIn
  refine ⟨fun _ _ => trivial, ?_⟩
  rw [Oper.semAt_eq _ _ _ hd]
  generalize (execOp a.eval o).run P w = r at *
  cases r with
  | ok x w' =>
    cases x <;> simp only [Oper.upon, Oper.uponIn] at h ⊢ <;>
      first
        | exact h
        | exact ⟨fun e => by simp [Fence.inRound, Fence.wide] at e, CallsIn.inRound l (callsIn_wide.2 (h.mono (fun e w' he => by cases e <;> first | exact he | exact absurd he hQ)))⟩
        | exact ⟨fun e => by simp [Fence.inRound, Fence.wide] at e, fun c cs _ => let ⟨v, w', r, s⟩ := h c cs; ⟨v, w', r, stepsIn_wide.2 s⟩⟩
        | exact h.elim
  | halt x w' => cases x <;> simp only [Oper.upon, Oper.uponIn] at h ⊢ <;> exact h

theorem any_in (hd : ∀ (i : Nat) o, ops[i]? = some o → ∀ c, o.op ≠ .defer c) (hQ : ¬ LetsOut Q) : ∀ (fuel : Nat) (listed : Array Bool) (a : Act) (w : World), wpAny P md ops Q fuel listed a w → wpAnyIn (Fence.wide.inRound l) n P md ops Q fuel listed a w
  | 0, _, _, _, h => h
  | fuel + 1, listed, a, w, h => by
    refine ⟨h.1, fun i hi => ?_⟩
    have hs := h.2 i hi
    refine wpOpIn_mono (fun a w => any_in hd hQ fuel _ a w) ?_
    unfold wpOp at hs
    unfold wpOpIn
    cases ho : ops[i]? with
    | none => simpa [ho] using hs
    | some o =>
      simp only [ho] at hs ⊢
      split
      · rename_i hw
        simp only [hw, if_true] at hs
        rcases hs with hs | hs
        · exact oper_in (hd i o ho) hQ hs
        · exact absurd hs.2 hQ
      · rename_i hw
        simp only [hw] at hs
        exact ⟨fun _ _ => trivial, hs⟩

def noDefer (L : List Oper) : Bool := L.all fun o => match o.op with
  | .defer _ => false
  | _ => true

theorem noDefer_at (h : noDefer L = true) : ∀ (i : Nat) o, L.toArray[i]? = some o → ∀ c, o.op ≠ .defer c := fun i o ho c e => by
  have := List.all_eq_true.1 h o (List.mem_of_getElem? (by simpa using ho))
  rw [e] at this
  cases this

theorem wpIn_any {id : Nat} {a : Act} {w : World} (hm : P.follows .mixedOrders = true) (hd : noDefer L = true) (hQ : ¬ LetsOut Q)
    (h : wpAny P .any L.toArray Q L.toArray.size (Array.replicate L.toArray.size false) a w.drew) : (Code.region id L.toArray true).wpIn (Fence.wide.inRound l) n P Q a w :=
  wpIn_region_any hm (any_in (noDefer_at hd) hQ _ _ _ _ h)

/-- As wp_region_later. -/
theorem wpIn_region_later (w0 : World) {id : Nat} {a : Act} {w : World} (hm : P.follows .mixedOrders = true) (hB : Region.lexB .any L.toArray = true) (hd : noDefer L = true) (hQ : ¬ LetsOut Q) (hC : Below w0.heap.size w0 w.drew)
    (h : wpQuiet P L.toArray (fun U => ∃ s : Later w0, U = s.val) (fun a' => ∀ w', Below w0.heap.size w0 w' → Q .normal a' w') L a) : (Code.region id L.toArray true).wpIn (Fence.wide.inRound l) n P Q a w := by
  refine wpIn_any hm hd hQ ?_
  simp only [Region.lexB, Bool.and_eq_true] at hB
  have e : (fun a' => ∀ w', Below w0.heap.size w0 w' → Q .normal a' w') = (fun a' => ∀ w', (fun U => ∃ s : Later w0, U = s.val) w' → Q .normal a' w') := funext fun a' => propext ⟨fun hh w' hw => hh w' (Later.iff.1 hw), fun hh w' hw => hh w' (Later.iff.2 hw)⟩
  rw [e] at h
  refine wpAny_of_quiet (Q := fun a' => ∀ w', (fun U => ∃ s : Later w0, U = s.val) w' → Q .normal a' w') (fun _ w' hw' h => h w' hw') _ _ _ _ (Later.iff.2 hC) ?_
  have := wpAnyQ_lex (C := fun U => ∃ s : Later w0, U = s.val) (md := .any) hB.1 L.toArray.toList 0 (Array.replicate L.toArray.size false) a (by simp) (by simpa using hB.2) (by simpa using h)
  simpa using this

/-- As wp_region_head_later. -/
theorem wpIn_region_head_later (k : Nat) (w0 : World) {id : Nat} {a : Act} {w : World} (hm : P.follows .mixedOrders = true) (hB : headB L k = true) (hd : noDefer L = true) (hQ : ¬ LetsOut Q) (hC : Below w0.heap.size w0 w.drew)
    (h : wpQuiet P L.toArray (fun U => ∃ s : Later w0, U = s.val) (fun a' => ∀ U, Below w0.heap.size w0 U → wpList P L.toArray Q (L.drop k) a' U) (L.take k) a) : (Code.region id L.toArray true).wpIn (Fence.wide.inRound l) n P Q a w := by
  have e : (fun a' => ∀ U, Below w0.heap.size w0 U → wpList P L.toArray Q (L.drop k) a' U) = (fun a' => ∀ U, (fun U => ∃ s : Later w0, U = s.val) U → wpList P L.toArray Q (L.drop k) a' U) := funext fun a' => propext ⟨fun hh w' hw => hh w' (Later.iff.1 hw), fun hh w' hw => hh w' (Later.iff.2 hw)⟩
  rw [e] at h
  have hC := Later.iff.2 hC
  simp only [headB, Bool.and_eq_true] at hB
  have hF := Forced.of hB.2
  have hk : k ≤ L.length := by have := hF.lt; omega
  refine wpIn_any hm hd hQ ?_
  have hlx := hB.1
  simp only [Region.lexB, Bool.and_eq_true] at hlx
  have hq : wpQuiet P (headOps L k).toArray (fun U => ∃ s : Later w0, U = s.val) (fun a' => ∀ U, (fun U => ∃ s : Later w0, U = s.val) U → wpList P L.toArray Q (L.drop k) a' U) (headOps L k) a := by
    show wpQuiet P (headOps L k).toArray _ _ (L.take k ++ (L.drop k).map idle) a
    refine quiet_head hF _ (fun a ha => quiet_idle _ a ha) (L.take k) 0 a (fun j hj => ?_) h
    have : j < k := by simp at hj; omega
    exact ⟨by omega, by rw [Nat.zero_add, List.getElem?_take_of_lt this]⟩
  have hl := wpAnyQ_lex (C := fun U => ∃ s : Later w0, U = s.val) (md := .any) hlx.1 (headOps L k) 0 (Array.replicate (headOps L k).length false) a (by simp) (by simpa using hlx.2) hq
  refine head_any (C := fun U => ∃ s : Later w0, U = s.val) hF (fun a h => h) _ _ a _ hC (by simp) ?_ ?_ ?_
  · intro s o ho hl e he hb
    rw [Array.getElem?_replicate] at hl
    split at hl <;> simp at hl
  · intro i hi hil
    simp [hil]
  · rw [headOps_len L hk] at hl
    simpa using hl

end
end Go.Proofs.Ytbkaopeajjechaa
