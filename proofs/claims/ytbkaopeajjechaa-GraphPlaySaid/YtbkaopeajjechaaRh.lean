/- Regions that draw their order, whose first operations keep to a class of worlds and whose last ones wait for all before them: the first ones in the text's order once, then the last ones as they stand. No program in sight. -/
import Derived.Test.YtbkaopeajjechaaQl
namespace Go.Proofs.Ytbkaopeajjechaa
set_option linter.unusedVariables false
set_option linter.unusedSimpArgs false
open Go.RowKit

/-- The operation with nothing to do. -/
def idle (o : Oper) : Oper := { o with op := .move (.const undef), dst := none, guard := none }

/-- The prefix of k operations and idle ones behind. -/
def headOps (L : List Oper) (k : Nat) : List Oper := L.take k ++ (L.drop k).map idle

/-- What is asked of a region: edges lead back; guards of the first k operations lie among them; whatever lies ahead of operation k has one behind it, up to k, that waits for it; and each later one waits for the one ahead of it. -/
def forcedB (L : List Oper) (k : Nat) : Bool :=
  decide (k < L.length) &&
  ((List.range k).all fun i => match (L[i]?).bind (·.guard) with | some (g, _) => decide (g < k) | none => true) &&
  ((List.range L.length).all fun s => match L[s]? with | some o => o.after.all fun e => !Region.binds .any e || decide (e.on < s) | none => true) &&
  ((List.range (L.length - 1)).all fun j => (List.range (max k (j + 1) + 1)).any fun s => decide (j < s) && match L[s]? with | some o => o.after.any fun e => Region.binds .any e && e.on == j | none => false)

def headB (L : List Oper) (k : Nat) : Bool := Region.lexB .any (headOps L k).toArray && forcedB L k

structure Forced (L : List Oper) (k : Nat) : Prop where
  lt : k < L.length
  grd : ∀ i o g b, i < k → L[i]? = some o → o.guard = some (g, b) → g < k
  back : ∀ (s : Nat) (o : Oper), L[s]? = some o → ∀ e ∈ o.after, Region.binds .any e = true → e.on < s
  next : ∀ j, j + 1 < L.length → ∃ s o, j < s ∧ s ≤ max k (j + 1) ∧ L[s]? = some o ∧ ∃ e ∈ o.after, Region.binds .any e = true ∧ e.on = j

theorem Forced.of {L : List Oper} {k : Nat} (h : forcedB L k = true) : Forced L k := by
  simp only [forcedB, Bool.and_eq_true, decide_eq_true_eq, List.all_eq_true, List.mem_range, List.any_eq_true] at h
  obtain ⟨⟨⟨h1, h2⟩, h3⟩, h4⟩ := h
  refine ⟨h1, ?_, ?_, ?_⟩
  · intro i o g b hi ho hg
    have := h2 i hi
    simp only [ho, Option.bind_some, hg, decide_eq_true_eq] at this
    exact this
  · intro s o ho e he hb
    have hs : s < L.length := (List.getElem?_eq_some_iff.1 ho).1
    have := h3 s hs
    simp only [ho, Array.all_eq_true_iff_forall_mem, Bool.or_eq_true, Bool.not_eq_true', decide_eq_true_eq] at this
    rcases this e he with h | h
    · rw [hb] at h; cases h
    · exact h
  · intro j hj
    obtain ⟨s, hs, hjs, hm⟩ := h4 j (by omega)
    cases ho : L[s]? with
    | none => simp [ho] at hm
    | some o =>
      simp only [ho, Array.any_eq_true, Bool.and_eq_true, beq_iff_eq] at hm
      obtain ⟨q, hq, hb, he⟩ := hm
      exact ⟨s, o, hjs, by omega, ho, o.after[q], Array.getElem_mem hq, hb, he⟩

section
variable {P : Program} {L : List Oper} {k : Nat} {C : World → Prop} {Q : Exit → Act → World → Prop} {Q1 : Act → Prop}

theorem headOps_lo (L : List Oper) (hk : k ≤ L.length) {i : Nat} (hi : i < k) : (headOps L k)[i]? = L[i]? := by
  unfold headOps
  rw [List.getElem?_append_left (by simp; omega), List.getElem?_take_of_lt hi]
theorem headOps_hi (L : List Oper) (hk : k ≤ L.length) {i : Nat} (hi : k ≤ i) : (headOps L k)[i]? = (L[i]?).map idle := by
  unfold headOps
  have : (L.take k).length = k := by simp; omega
  rw [List.getElem?_append_right (by omega), this, List.getElem?_map, List.getElem?_drop, show k + (i - k) = i by omega]

theorem headOps_after (L : List Oper) (hk : k ≤ L.length) (i : Nat) (f : Array Edge → Bool) : ((headOps L k)[i]?).map (fun o => f o.after) = (L[i]?).map (fun o => f o.after) := by
  by_cases hi : i < k
  · rw [headOps_lo L hk hi]
  · rw [headOps_hi L hk (by omega), Option.map_map]
    rfl

theorem headOps_len (L : List Oper) (hk : k ≤ L.length) : (headOps L k).length = L.length := by
  unfold headOps
  simp
  omega

theorem ready_head (hk : k ≤ L.length) (listed : Array Bool) : Region.ready .any (headOps L k).toArray listed = Region.ready .any L.toArray listed := by
  unfold Region.ready
  simp only [List.size_toArray, headOps_len L hk, List.getElem?_toArray]
  apply List.filter_congr
  intro i _
  rw [headOps_after L hk i (fun es => es.all fun e => !Region.binds .any e || listed.getD e.on false)]

theorem mem_ready' {i : Nat} {listed : Array Bool} (hs : listed.size = L.length) : i ∈ Region.ready .any L.toArray listed ↔
    listed[i]? = some false ∧ ∃ o, L[i]? = some o ∧ ∀ e ∈ o.after, Region.binds .any e = true → listed[e.on]? = some true := by
  rw [mem_ready]
  have h1 : ∀ j, listed.getD j true = false ↔ listed[j]? = some false := fun j => by
    rw [Array.getD_eq_getD_getElem?]
    cases h : listed[j]? with
    | none => simp
    | some b => simp
  have h2 : ∀ j, listed.getD j false = true ↔ listed[j]? = some true := fun j => by
    rw [Array.getD_eq_getD_getElem?]
    cases h : listed[j]? with
    | none => simp
    | some b => simp
  simp only [h1, h2, List.getElem?_toArray]

/-- While something has not come up, something may come up. -/
theorem ready_some (hF : Forced L k) {listed : Array Bool} (hs : listed.size = L.length) : ∀ (m : Nat), listed[m]? = some false → ∃ i, i ∈ Region.ready .any L.toArray listed
  | m, hm => by
    by_cases h : ∃ j, j < m ∧ listed[j]? = some false
    · obtain ⟨j, hj, hl⟩ := h
      exact ready_some hF hs j hl
    · have hlt : m < L.length := by
        have := (Array.getElem?_eq_some_iff.1 hm).1
        omega
      refine ⟨m, (mem_ready' hs).2 ⟨hm, L[m], List.getElem?_eq_getElem hlt, fun e he hb => ?_⟩⟩
      have hon := hF.back m _ (List.getElem?_eq_getElem hlt) e he hb
      have hle : e.on < listed.size := by omega
      cases hv : listed[e.on]'hle with
      | true => rw [Array.getElem?_eq_getElem hle, hv]
      | false => exact absurd ⟨e.on, hon, by rw [Array.getElem?_eq_getElem hle, hv]⟩ h
termination_by m => m

/-- Just the operations below i have come up. -/
def Upto (L : List Oper) (listed : Array Bool) (i : Nat) : Prop := listed.size = L.length ∧ ∀ j, j < L.length → listed[j]? = some (decide (j < i))

theorem Upto.next {listed : Array Bool} {i : Nat} (h : Upto L listed i) : Upto L (listed.setIfInBounds i true) (i + 1) := by
  refine ⟨by rw [Array.size_setIfInBounds]; exact h.1, fun j hj => ?_⟩
  rw [Array.getElem?_setIfInBounds]
  by_cases e : i = j
  · subst e
    rw [if_pos rfl, if_pos (by rw [h.1]; exact hj)]
    simp
  · rw [if_neg e, h.2 j hj]
    simp
    omega

theorem Upto.ready {listed : Array Bool} {i : Nat} (hF : Forced L k) (h : Upto L listed i) (hi : i < L.length) : i ∈ Region.ready .any L.toArray listed := by
  refine (mem_ready' h.1).2 ⟨by rw [h.2 i hi]; simp, L[i], List.getElem?_eq_getElem hi, fun e he hb => ?_⟩
  have hon := hF.back i _ (List.getElem?_eq_getElem hi) e he hb
  rw [h.2 _ (by omega)]
  simpa using hon

theorem Upto.none {listed : Array Bool} (h : Upto L listed L.length) : Region.ready .any L.toArray listed = [] := by
  rw [List.eq_nil_iff_forall_not_mem]
  intro i hi
  have := (mem_ready' h.1).1 hi
  have hlt : i < L.length := by
    have := (Array.getElem?_eq_some_iff.1 this.1).1
    have := h.1
    omega
  rw [h.2 i hlt] at this
  simp [hlt] at this

/-- The last operations, one behind the other. -/
theorem tail_any (hF : Forced L k) : ∀ (fuel i : Nat) (listed : Array Bool) (a : Act) (w : World), Upto L listed i → k ≤ i → i ≤ L.length → L.length - i ≤ fuel → wpList P L.toArray Q (L.drop i) a w → wpAny P .any L.toArray Q fuel listed a w
  | 0, i, listed, a, w, hU, hk, hi, hf, h => by
    obtain rfl : i = L.length := by omega
    rw [List.drop_length] at h
    exact ⟨hU.none, h⟩
  | fuel + 1, i, listed, a, w, hU, hk, hi, hf, h => by
    by_cases hlt : i < L.length
    · refine ⟨fun h0 => absurd (hU.ready hF hlt) (by rw [h0]; simp), fun j hj => ?_⟩
      have hjr := (mem_ready' hU.1).1 hj
      have hjl : j < L.length := by
        have := (Array.getElem?_eq_some_iff.1 hjr.1).1
        have := hU.1
        omega
      have hji : ¬ j < i := fun hc => by
        have := hjr.1
        rw [hU.2 j hjl] at this
        simp [hc] at this
      obtain rfl : j = i := by
        by_cases e : j = i
        · exact e
        · exfalso
          obtain ⟨s, o, h1, h2, h3, e', he, hb, hon⟩ := hF.next (j - 1) (by omega)
          obtain rfl : s = j := by omega
          obtain ⟨-, o2, h4, h5⟩ := hjr
          rw [h3] at h4
          cases h4
          have := h5 e' he hb
          rw [hon, hU.2 _ (by omega)] at this
          simp at this
          omega
      rw [List.drop_eq_getElem_cons hlt] at h
      unfold wpOp
      rw [List.getElem?_toArray, List.getElem?_eq_getElem hlt]
      unfold wpList at h
      have ih := fun a w => tail_any hF fuel (j + 1) (listed.setIfInBounds j true) a w hU.next (by omega) (by omega) (by omega)
      dsimp only
      split
      · rename_i hw
        rw [if_pos hw] at h
        exact h.imp (Oper.wp_mono ih) id
      · rename_i hw
        rw [if_neg hw] at h
        exact ih _ _ h
    · obtain rfl : i = L.length := by omega
      rw [List.drop_length] at h
      refine ⟨fun _ => h, fun j hj => ?_⟩
      rw [hU.none] at hj
      cases hj

/-- Through the idle ones. -/
theorem idle_any (hF : Forced L k) : ∀ (fuel i : Nat) (listed : Array Bool) (a : Act), Upto L listed i → k ≤ i → i ≤ L.length → wpAnyQ P .any (headOps L k).toArray C Q1 fuel listed a → Q1 a ∧ L.length - i ≤ fuel
  | 0, i, listed, a, hU, hk, hi, h => by
    unfold wpAnyQ at h
    rw [ready_head (by have := hF.lt; omega)] at h
    by_cases hlt : i < L.length
    · have := hU.ready hF hlt
      rw [h.1] at this
      cases this
    · exact ⟨h.2, by omega⟩
  | fuel + 1, i, listed, a, hU, hk, hi, h => by
    unfold wpAnyQ at h
    rw [ready_head (by have := hF.lt; omega)] at h
    by_cases hlt : i < L.length
    · have hq := h.2 i (hU.ready hF hlt)
      unfold qOp at hq
      rw [List.getElem?_toArray, headOps_hi L (by have := hF.lt; omega) hk, List.getElem?_eq_getElem hlt] at hq
      simp only [Option.map_some] at hq
      rw [if_pos (by simp [Region.wanted, idle])] at hq
      obtain ⟨v, -, hK⟩ := hq
      have := idle_any hF fuel (i + 1) _ a hU.next (by omega) (by omega) hK
      exact ⟨this.1, by omega⟩
    · obtain rfl : i = L.length := by omega
      exact ⟨h.1 hU.none, by omega⟩

theorem wanted_head (hF : Forced L k) {i : Nat} {o : Oper} (hi : i < k) (ho : L[i]? = some o) (tmps : Array Value) :
    Region.wanted o (yielded (headOps L k).toArray tmps) = Region.wanted o (yielded L.toArray tmps) := by
  unfold Region.wanted
  cases hg : o.guard with
  | none => rfl
  | some x =>
    obtain ⟨g, b⟩ := x
    have hlt := hF.grd i o g b hi ho hg
    have : yielded (headOps L k).toArray tmps g = yielded L.toArray tmps g := by
      unfold yielded
      rw [List.getElem?_toArray, List.getElem?_toArray, headOps_lo L (by have := hF.lt; omega) hlt]
    simp only [this]

/-- The first operations, in whatever order. -/
theorem head_any (hF : Forced L k) (hQ1 : ∀ a, Q1 a → ∀ U, C U → wpList P L.toArray Q (L.drop k) a U) :
    ∀ (fuel : Nat) (listed : Array Bool) (a : Act) (w : World), C w → listed.size = L.length →
      (∀ (s : Nat) (o : Oper), L[s]? = some o → listed[s]? = some true → ∀ e ∈ o.after, Region.binds .any e = true → listed[e.on]? = some true) →
      (∀ i, k ≤ i → i < L.length → listed[i]? = some false) →
      wpAnyQ P .any (headOps L k).toArray C Q1 fuel listed a → wpAny P .any L.toArray Q fuel listed a w
  | 0, listed, a, w, hw, hs, hc, hp, h => by
    unfold wpAnyQ at h
    rw [ready_head (by have := hF.lt; omega)] at h
    obtain ⟨i, hi⟩ := ready_some hF hs k (hp k (Nat.le_refl _) hF.lt)
    rw [h.1] at hi
    cases hi
  | fuel + 1, listed, a, w, hw, hs, hc, hp, h => by
    have h' := h
    unfold wpAnyQ at h
    rw [ready_head (by have := hF.lt; omega)] at h
    refine ⟨fun h0 => ?_, fun i hi => ?_⟩
    · obtain ⟨i, hi⟩ := ready_some hF hs k (hp k (Nat.le_refl _) hF.lt)
      rw [h0] at hi
      cases hi
    have hir := (mem_ready' hs).1 hi
    have hil : i < L.length := by
      have := (Array.getElem?_eq_some_iff.1 hir.1).1
      omega
    by_cases hik : i < k
    · have hq := h.2 i hi
      have hop := wpOp_of_qOp (Q' := Q) (K' := fun a' w' => wpAny P .any L.toArray Q fuel (listed.setIfInBounds i true) a' w') hw (fun a' w' hw' hK => head_any hF hQ1 fuel _ a' w' hw' (by rw [Array.size_setIfInBounds]; exact hs) ?_ ?_ hK) hq
      · unfold wpOp at hop ⊢
        rw [List.getElem?_toArray, headOps_lo L (by have := hF.lt; omega) hik, List.getElem?_eq_getElem hil] at hop
        rw [List.getElem?_toArray, List.getElem?_eq_getElem hil]
        dsimp only at hop ⊢
        rw [wanted_head hF hik (List.getElem?_eq_getElem hil)] at hop
        exact hop
      · intro s o ho hl e he hb
        rw [Array.getElem?_setIfInBounds] at hl ⊢
        by_cases e2 : i = e.on
        · rw [if_pos e2, if_pos (by omega)]
        · rw [if_neg e2]
          by_cases e1 : i = s
          · subst e1
            obtain ⟨-, o2, h4, h5⟩ := hir
            rw [ho] at h4
            cases h4
            exact h5 e he hb
          · rw [if_neg e1] at hl
            exact hc s o ho hl e he hb
      · intro j hj hjl
        rw [Array.getElem?_setIfInBounds, if_neg (by omega)]
        exact hp j hj hjl
    · -- the first of the last ones: all ahead of it have come up
      have hall : ∀ d j, j + d + 1 = i → listed[j]? = some true := by
        intro d
        induction d using Nat.strongRecOn with
        | ind d ih =>
          intro j hj
          obtain ⟨s, o, h1, h2, h3, e', he, hb, hon⟩ := hF.next j (by omega)
          have hsi : s ≤ i := by omega
          by_cases e : s = i
          · subst e
            obtain ⟨-, o2, h4, h5⟩ := hir
            rw [h3] at h4
            cases h4
            have := h5 e' he hb
            rwa [hon] at this
          · have hls := ih (i - s - 1) (by omega) s (by omega)
            have := hc s o h3 hls e' he hb
            rwa [hon] at this
      obtain rfl : i = k := by
        by_cases e : i = k
        · exact e
        · exfalso
          have h1 := hall (i - k - 1) k (by omega)
          rw [hp k (Nat.le_refl _) hF.lt] at h1
          cases h1
      have hU : Upto L listed i := ⟨hs, fun j hj => by
        by_cases hlt : j < i
        · rw [hall (i - j - 1) j (by omega)]; simp [hlt]
        · rw [hp j (by omega) hj]; simp [hlt]⟩
      obtain ⟨hq1, hf⟩ := idle_any hF (fuel + 1) i listed a hU (Nat.le_refl _) (by omega) h'
      exact (tail_any hF (fuel + 1) i listed a w hU (Nat.le_refl _) (by omega) hf (hQ1 a hq1 w hw)).2 i hi

theorem quiet_idle {ops : Array Oper} : ∀ (T : List Oper) (a : Act), Q1 a → wpQuiet P ops C Q1 (T.map idle) a
  | [], a, h => h
  | o :: T, a, h => by
    show wpQuiet P ops C Q1 (idle o :: T.map idle) a
    unfold wpQuiet
    rw [if_pos (by simp [Region.wanted, idle])]
    refine ⟨undef, fun w _ => ?_, quiet_idle T a h⟩
    unfold Oper.quietAt
    rw [BigFrame.run_move (.const undef) rfl]
    exact ⟨rfl, rfl⟩

theorem quiet_head (hF : Forced L k) {Q2 : Act → Prop} (T : List Oper) (h2 : ∀ a, Q2 a → wpQuiet P (headOps L k).toArray C Q1 T a) :
    ∀ (l : List Oper) (m : Nat) (a : Act), (∀ j, j < l.length → m + j < k ∧ l[j]? = L[m + j]?) → wpQuiet P L.toArray C Q2 l a → wpQuiet P (headOps L k).toArray C Q1 (l ++ T) a
  | [], _, a, _, h => h2 a h
  | o :: l, m, a, hl, h => by
    have h0 := hl 0 (by simp)
    simp only [Nat.add_zero, List.getElem?_cons_zero] at h0
    have ih := fun a => quiet_head hF T h2 l (m + 1) a (fun j hj => by
      have := hl (j + 1) (by simpa using hj)
      refine ⟨by omega, ?_⟩
      simpa [Nat.add_assoc, Nat.add_comm 1 j] using this.2)
    show wpQuiet P (headOps L k).toArray C Q1 (o :: (l ++ T)) a
    unfold wpQuiet at h ⊢
    rw [wanted_head hF h0.1 h0.2.symm]
    split
    · rename_i hw
      rw [if_pos hw] at h
      exact Oper.quiet_mono ih h
    · rename_i hw
      rw [if_neg hw] at h
      exact ih _ h

/-- The first k operations once, in the text's order, at a class of worlds; then the others as they stand. -/
theorem wp_region_head (k : Nat) {id : Nat} {a : Act} {w : World} (hm : P.follows .mixedOrders = true) (hB : headB L k = true) (hC : C w.drew)
    (h : wpQuiet P L.toArray C (fun a' => ∀ U, C U → wpList P L.toArray Q (L.drop k) a' U) (L.take k) a) : (Code.region id L.toArray true).wp P Q a w := by
  simp only [headB, Bool.and_eq_true] at hB
  have hF := Forced.of hB.2
  have hk : k ≤ L.length := by have := hF.lt; omega
  refine wp_region_any hm ?_
  have hlx := hB.1
  simp only [Region.lexB, Bool.and_eq_true] at hlx
  have hq : wpQuiet P (headOps L k).toArray C (fun a' => ∀ U, C U → wpList P L.toArray Q (L.drop k) a' U) (headOps L k) a := by
    show wpQuiet P (headOps L k).toArray C _ (L.take k ++ (L.drop k).map idle) a
    refine quiet_head hF _ (fun a ha => quiet_idle _ a ha) (L.take k) 0 a (fun j hj => ?_) h
    have : j < k := by simp at hj; omega
    exact ⟨by omega, by rw [Nat.zero_add, List.getElem?_take_of_lt this]⟩
  have hl := wpAnyQ_lex (C := C) (md := .any) hlx.1 (headOps L k) 0 (Array.replicate (headOps L k).length false) a (by simp) (by simpa using hlx.2) hq
  refine head_any hF (fun a h => h) _ _ a _ hC (by simp) ?_ ?_ ?_
  · intro s o ho hl e he hb
    rw [Array.getElem?_replicate] at hl
    split at hl <;> simp at hl
  · intro i hi hil
    simp [hil]
  · rw [headOps_len L hk] at hl
    simpa using hl
end

/-- .. at the later worlds of w0. -/
theorem wp_region_head_later (k : Nat) {P : Program} (w0 : World) {id : Nat} {Q : Exit → Act → World → Prop} {a : Act} {w : World} {L : List Oper} (hm : P.follows .mixedOrders = true) (hB : headB L k = true) (hC : Below w0.heap.size w0 w.drew)
    (h : wpQuiet P L.toArray (fun U => ∃ s : Later w0, U = s.val) (fun a' => ∀ U, Below w0.heap.size w0 U → wpList P L.toArray Q (L.drop k) a' U) (L.take k) a) : (Code.region id L.toArray true).wp P Q a w := by
  refine wp_region_head (C := fun U => ∃ s : Later w0, U = s.val) k hm hB (Later.iff.2 hC) ?_
  have e : (fun a' => ∀ U, (fun U => ∃ s : Later w0, U = s.val) U → wpList P L.toArray Q (L.drop k) a' U) = (fun a' => ∀ U, Below w0.heap.size w0 U → wpList P L.toArray Q (L.drop k) a' U) := funext fun a' => propext ⟨fun hh w' hw => hh w' (Later.iff.2 hw), fun hh w' hw => hh w' (Later.iff.1 hw)⟩
  rw [e]
  exact h
end Go.Proofs.Ytbkaopeajjechaa
