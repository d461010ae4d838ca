/- Regions that draw their order and in which one operation panics, the others keeping to a class of worlds: those that do not wait for it once, in the text's order, then the operation that panics. No program in sight. -/
import Derived.Test.YtbkaopeajjechaaRh
namespace Go.Proofs.Ytbkaopeajjechaa
set_option linter.unusedVariables false
set_option linter.unusedSimpArgs false
open Go.RowKit

/-- The operations with those that wait for the one that panics (and itself) made idle. -/
def diesOps (L : List Oper) (blk : List Bool) : List Oper := List.zipWith (fun o b => if b then idle o else o) L blk

theorem diesOps_f (o : Oper) (L : List Oper) (B : List Bool) : diesOps (o :: L) (false :: B) = o :: diesOps L B := rfl
theorem diesOps_t (d : Option Tmp) (op : Op) (ty : TypeId) (ps : String) (af : Array Edge) (g : Option (Nat × Bool)) (L : List Oper) (B : List Bool) :
    diesOps ({ dst := d, op := op, type := ty, pos := ps, after := af, guard := g } :: L) (true :: B) = { dst := none, op := .move (.const undef), type := ty, pos := ps, after := af, guard := none } :: diesOps L B := rfl
theorem diesOps_nil (B : List Bool) : diesOps [] B = [] := rfl

def diesB (L : List Oper) (blk : List Bool) (p : Nat) : Bool :=
  Region.lexB .any (diesOps L blk).toArray && decide (p < L.length) && decide (blk.length = L.length) && (blk[p]? == some true) &&
  ((List.range L.length).all fun s => match L[s]? with | some o => o.after.all fun e => !Region.binds .any e || decide (e.on < s) | none => true) &&
  ((List.range L.length).all fun j => decide (j = p) || (blk[j]? == some false) || match L[j]? with | some o => o.after.any fun e => Region.binds .any e && (blk[e.on]? == some true) | none => false) &&
  ((List.range L.length).all fun j => (blk[j]? == some true) || match (L[j]?).bind (·.guard) with | some (g, _) => (blk[g]? == some false) | none => true) &&
  (match L[p]? with
   | some o => o.guard.isNone && (match o.op with | .select .. => false | _ => true) &&
     (List.range L.length).all fun j => (blk[j]? == some true) || match (L[j]?).bind (·.dst) with | some d => !(o.looksAt L.toArray).contains d || o.after.any fun e => Region.binds .any e && e.on == j | none => true
   | none => false)

structure Dies (L : List Oper) (blk : List Bool) (p : Nat) (o : Oper) : Prop where
  lex : Region.lexB .any (diesOps L blk).toArray = true
  at_ : L[p]? = some o
  len : blk.length = L.length
  pb : blk[p]? = some true
  back : ∀ (s : Nat) (o : Oper), L[s]? = some o → ∀ e ∈ o.after, Region.binds .any e = true → e.on < s
  dep : ∀ (j : Nat) (x : Oper), j ≠ p → L[j]? = some x → blk[j]? = some true → ∃ e ∈ x.after, Region.binds .any e = true ∧ blk[e.on]? = some true
  grd : ∀ (j : Nat) (x : Oper) (g : Nat) (b : Bool), L[j]? = some x → blk[j]? = some false → x.guard = some (g, b) → blk[g]? = some false
  pgrd : o.guard = none
  sel : ∀ cs b, o.op ≠ .select cs b
  look : ∀ (j : Nat) (x : Oper) (d : Tmp), L[j]? = some x → blk[j]? = some false → x.dst = some d → d ∈ o.looksAt L.toArray → ∃ e ∈ o.after, Region.binds .any e = true ∧ e.on = j

theorem Dies.of {L : List Oper} {blk : List Bool} {p : Nat} (h : diesB L blk p = true) : ∃ o, Dies L blk p o := by
  unfold diesB at h
  cases ho : L[p]? with
  | none => rw [ho] at h; simp at h
  | some o =>
    rw [ho] at h
    simp only [Bool.and_eq_true, decide_eq_true_eq, List.all_eq_true, List.mem_range, Bool.or_eq_true, beq_iff_eq] at h
    obtain ⟨⟨⟨⟨⟨⟨⟨h1, h2⟩, h3⟩, h4⟩, h5⟩, h6⟩, h7⟩, ⟨h8, h9⟩, h10⟩ := h
    refine ⟨o, h1, ho, h3, h4, ?_, ?_, ?_, ?_, ?_, ?_⟩
    · intro s x hx e he hb
      have hs : s < L.length := (List.getElem?_eq_some_iff.1 hx).1
      have := h5 s hs
      simp only [hx, Array.all_eq_true_iff_forall_mem, Bool.or_eq_true, Bool.not_eq_true', decide_eq_true_eq] at this
      rcases this e he with h | h
      · rw [hb] at h; cases h
      · exact h
    · intro j x hj hx hb
      have hs : j < L.length := (List.getElem?_eq_some_iff.1 hx).1
      have := h6 j hs
      rw [hx, hb] at this
      rcases this with (h | h) | h
      · exact absurd h hj
      · simp at h
      · simp only [Array.any_eq_true, Bool.and_eq_true, beq_iff_eq] at h
        obtain ⟨q, hq, hb, he⟩ := h
        exact ⟨x.after[q], Array.getElem_mem hq, hb, he⟩
    · intro j x g b hx hb hg
      have hs : j < L.length := (List.getElem?_eq_some_iff.1 hx).1
      have := h7 j hs
      rw [hx, hb] at this
      simp only [Option.bind_some, hg] at this
      rcases this with h | h
      · simp at h
      · simpa using h
    · simpa using h8
    · intro cs b e
      rw [e] at h9
      simp at h9
    · intro j x d hx hb hd hl
      have hs : j < L.length := (List.getElem?_eq_some_iff.1 hx).1
      have := h10 j hs
      rw [hx, hb] at this
      simp only [Option.bind_some, hd, Bool.or_eq_true, Bool.not_eq_true', Array.any_eq_true, Bool.and_eq_true, beq_iff_eq] at this
      rcases this with h | h | h
      · simp at h
      · rw [List.contains_iff_mem.2 hl] at h; cases h
      · obtain ⟨q, hq, hb, he⟩ := h
        exact ⟨o.after[q], Array.getElem_mem hq, hb, he⟩

section
variable {P : Program} {L : List Oper} {blk : List Bool} {p : Nat} {o : Oper} {C : World → Prop} {Q : Exit → Act → World → Prop} {Q1 : Act → Prop}

theorem diesOps_at (hD : Dies L blk p o) (i : Nat) : (diesOps L blk)[i]? = (L[i]?).map fun x => if blk[i]? = some true then idle x else x := by
  unfold diesOps
  rw [List.getElem?_zipWith]
  cases hx : L[i]? with
  | none => simp
  | some x =>
    have hi : i < L.length := (List.getElem?_eq_some_iff.1 hx).1
    have : blk[i]? = some (blk[i]'(by rw [hD.len]; exact hi)) := List.getElem?_eq_getElem _
    rw [this]
    cases blk[i]'(by rw [hD.len]; exact hi) <;> simp

theorem diesOps_len (hD : Dies L blk p o) : (diesOps L blk).length = L.length := by
  unfold diesOps
  simp [hD.len]

theorem ready_dies (hD : Dies L blk p o) (listed : Array Bool) : Region.ready .any (diesOps L blk).toArray listed = Region.ready .any L.toArray listed := by
  unfold Region.ready
  simp only [List.size_toArray, diesOps_len hD, List.getElem?_toArray]
  apply List.filter_congr
  intro i _
  rw [diesOps_at hD i]
  cases L[i]? with
  | none => rfl
  | some x =>
    simp only [Option.map_some]
    split <;> rfl

theorem ready_any (hD : Dies L blk p o) {listed : Array Bool} (hs : listed.size = L.length) : ∀ (m : Nat), listed[m]? = some false → ∃ i, i ∈ Region.ready .any L.toArray listed
  | m, hm => by
    by_cases h : ∃ j, j < m ∧ listed[j]? = some false
    · obtain ⟨j, hj, hl⟩ := h
      exact ready_any hD hs j hl
    · have hlt : m < L.length := by
        have := (Array.getElem?_eq_some_iff.1 hm).1
        omega
      refine ⟨m, (mem_ready' hs).2 ⟨hm, L[m], List.getElem?_eq_getElem hlt, fun e he hb => ?_⟩⟩
      have hon := hD.back m _ (List.getElem?_eq_getElem hlt) e he hb
      have hle : e.on < listed.size := by omega
      cases hv : listed[e.on]'hle with
      | true => rw [Array.getElem?_eq_getElem hle, hv]
      | false => exact absurd ⟨e.on, hon, by rw [Array.getElem?_eq_getElem hle, hv]⟩ h
termination_by m => m

/-- However the others go on, the operation that panics finds what it looks at. -/
theorem dies_agree (hD : Dies L blk p o) : ∀ (fuel : Nat) (listed : Array Bool) (a : Act), listed.size = L.length →
    (∀ e ∈ o.after, Region.binds .any e = true → listed[e.on]? = some true) → wpAnyQ P .any (diesOps L blk).toArray C Q1 fuel listed a →
    ∃ a', Q1 a' ∧ execOp a'.eval o = execOp a.eval o ∧ a'.defers = a.defers
  | 0, _, a, _, _, h => ⟨a, h.2, rfl, rfl⟩
  | fuel + 1, listed, a, hs, hp, h => by
    unfold wpAnyQ at h
    cases hr : Region.ready .any (diesOps L blk).toArray listed with
    | nil => exact ⟨a, h.1 hr, rfl, rfl⟩
    | cons i r =>
      have hi : i ∈ Region.ready .any (diesOps L blk).toArray listed := by rw [hr]; simp
      have hq := h.2 i hi
      rw [ready_dies hD] at hi
      obtain ⟨hl, x, hx, -⟩ := (mem_ready' hs).1 hi
      have hil : i < L.length := (List.getElem?_eq_some_iff.1 hx).1
      have key : ∀ a1 : Act, execOp a1.eval o = execOp a.eval o → a1.defers = a.defers → wpAnyQ P .any (diesOps L blk).toArray C Q1 fuel (listed.setIfInBounds i true) a1 →
          ∃ a', Q1 a' ∧ execOp a'.eval o = execOp a.eval o ∧ a'.defers = a.defers := fun a1 e1 e2 hK => by
        obtain ⟨a', q1, q2, q3⟩ := dies_agree hD fuel _ a1 (by rw [Array.size_setIfInBounds]; exact hs) (fun e he hb => by
          rw [Array.getElem?_setIfInBounds]
          by_cases e2 : i = e.on
          · rw [if_pos e2, if_pos (by omega)]
          · rw [if_neg e2]; exact hp e he hb) hK
        exact ⟨a', q1, q2.trans e1, q3.trans e2⟩
      have hput : ∀ (y : Oper) (v : Value), (diesOps L blk)[i]? = some y → execOp (a.put y.dst v).eval o = execOp a.eval o := fun y v hy => by
        refine execOp_put (ops := L.toArray) o hD.sel a y.dst v (fun d hd hlk => ?_)
        rw [diesOps_at hD i, hx] at hy
        simp only [Option.map_some, Option.some.injEq] at hy
        by_cases hb : blk[i]? = some true
        · rw [if_pos hb] at hy
          rw [← hy] at hd
          cases hd
        · rw [if_neg hb] at hy
          subst hy
          have hbf : blk[i]? = some false := by
            have : blk[i]? = some (blk[i]'(by rw [hD.len]; exact hil)) := List.getElem?_eq_getElem _
            rw [this] at hb ⊢
            cases hv : blk[i]'(by rw [hD.len]; exact hil) with
            | true => rw [hv] at hb; exact absurd rfl hb
            | false => rfl
          obtain ⟨e, he, hbd, hon⟩ := hD.look i x d hx hbf hd hlk
          have := hp e he hbd
          rw [hon, hl] at this
          cases this
      have hdef : ∀ (d : Option Tmp) (v : Value), (a.put d v).defers = a.defers := fun d v => by cases d <;> rfl
      unfold qOp at hq
      rw [List.getElem?_toArray] at hq
      cases hy : (diesOps L blk)[i]? with
      | none =>
        rw [hy] at hq
        exact key a rfl rfl hq
      | some y =>
        rw [hy] at hq
        dsimp only at hq
        split at hq
        · obtain ⟨v, -, hK⟩ := hq
          exact key _ (hput y v hy) (hdef _ _) hK
        · exact key _ (hput y _ hy) (hdef _ _) hq

theorem wanted_dies (hD : Dies L blk p o) {i : Nat} {x : Oper} (hx : L[i]? = some x) (hb : blk[i]? = some false) (tmps : Array Value) :
    Region.wanted x (yielded (diesOps L blk).toArray tmps) = Region.wanted x (yielded L.toArray tmps) := by
  unfold Region.wanted
  cases hg : x.guard with
  | none => rfl
  | some y =>
    obtain ⟨g, b⟩ := y
    have hgb := hD.grd i x g b hx hb hg
    have : yielded (diesOps L blk).toArray tmps g = yielded L.toArray tmps g := by
      unfold yielded
      rw [List.getElem?_toArray, List.getElem?_toArray, diesOps_at hD g, hgb]
      cases L[g]? <;> simp
    simp only [this]

/-- As Q at an exit, whatever the slots hold; a normal end is none. -/
def anySlots (Q : Exit → Act → World → Prop) (e : Exit) (a : Act) (w : World) : Prop := e ≠ .normal ∧ ∀ tmps, Q e { tmps := tmps, defers := a.defers } w

theorem dies_any (hD : Dies L blk p o) (hQ1 : ∀ a, Q1 a → ∀ U, C U → o.wp P a U (fun _ _ => False) (anySlots Q)) :
    ∀ (fuel : Nat) (listed : Array Bool) (a : Act) (w : World), C w → listed.size = L.length → (∀ i, blk[i]? = some true → i < L.length → listed[i]? = some false) →
      wpAnyQ P .any (diesOps L blk).toArray C Q1 fuel listed a → wpAny P .any L.toArray Q fuel listed a w
  | 0, listed, a, w, hw, hs, hp, h => by
    unfold wpAnyQ at h
    rw [ready_dies hD] at h
    obtain ⟨i, hi⟩ := ready_any hD hs p (hp p hD.pb (List.getElem?_eq_some_iff.1 hD.at_).1)
    rw [h.1] at hi
    cases hi
  | fuel + 1, listed, a, w, hw, hs, hp, h => by
    have h' := h
    unfold wpAnyQ at h
    rw [ready_dies hD] at h
    refine ⟨fun h0 => ?_, fun i hi => ?_⟩
    · obtain ⟨i, hi⟩ := ready_any hD hs p (hp p hD.pb (List.getElem?_eq_some_iff.1 hD.at_).1)
      rw [h0] at hi
      cases hi
    obtain ⟨hl, x, hx, haf⟩ := (mem_ready' hs).1 hi
    have hil : i < L.length := (List.getElem?_eq_some_iff.1 hx).1
    have hbi : blk[i]? = some (blk[i]'(by rw [hD.len]; exact hil)) := List.getElem?_eq_getElem _
    cases hv : blk[i]'(by rw [hD.len]; exact hil) with
    | false =>
      rw [hv] at hbi
      have hq := h.2 i hi
      have hop := wpOp_of_qOp (Q' := Q) (K' := fun a' w' => wpAny P .any L.toArray Q fuel (listed.setIfInBounds i true) a' w') hw (fun a' w' hw' hK => dies_any hD hQ1 fuel _ a' w' hw' (by rw [Array.size_setIfInBounds]; exact hs) (fun j hj hjl => by
        rw [Array.getElem?_setIfInBounds, if_neg (fun e => by rw [e, hj] at hbi; cases hbi)]
        exact hp j hj hjl) hK) hq
      unfold wpOp at hop ⊢
      rw [List.getElem?_toArray, diesOps_at hD i, hx, hbi] at hop
      rw [List.getElem?_toArray, hx]
      simp only [Option.map_some, Option.some.injEq, Bool.false_eq_true, if_false] at hop
      dsimp only
      rw [wanted_dies hD hx hbi] at hop
      exact hop
    | true =>
      rw [hv] at hbi
      obtain rfl : i = p := by
        by_cases e : i = p
        · exact e
        · exfalso
          obtain ⟨e', he, hb, hon⟩ := hD.dep i x e hx hbi
          have h1 := haf e' he hb
          have hle : e'.on < L.length := by have := hD.back i x hx e' he hb; omega
          rw [hp _ hon hle] at h1
          cases h1
      rw [hD.at_] at hx
      cases hx
      obtain ⟨a', q1, q2, q3⟩ := dies_agree hD (fuel + 1) listed a hs haf h'
      have hd := hQ1 a' q1 w hw
      unfold wpOp
      rw [List.getElem?_toArray, hD.at_]
      dsimp only
      rw [if_pos (by simp [Region.wanted, hD.pgrd])]
      left
      unfold Oper.wp at hd ⊢
      rw [q2] at hd
      generalize (execOp a.eval o).run P w = r at hd ⊢
      cases r with
      | ok n w' =>
        cases n with
        | enter f args =>
          simp only [Oper.upon] at hd ⊢
          refine hd.mono fun e w'' he => ?_
          cases e with
          | returned v => exact he.elim
          | panicked ch =>
            have := he.2 a.tmps
            rw [q3] at this
            exact this
          | outgrown =>
            obtain ⟨a1, w1, h1⟩ := he
            exact ⟨_, w1, h1.2 a1.tmps⟩
        | row _ _ =>
          simp only [Oper.upon] at hd ⊢
          exact hd.mono (fun _ _ h => h.elim)
        | value _ => exact hd.elim
        | skip => exact hd.elim
        | defer _ => exact hd.elim
        | _ => exact hd
      | halt x w' =>
        cases x with
        | panic v =>
          have := hd.2 a.tmps
          rw [q3] at this
          exact this
        | _ => exact hd

/-- One operation panics: those that do not wait for it once, in the text's order; then it, whatever the other slots hold. -/
theorem wp_region_dies (p : Nat) (blk : List Bool) {id : Nat} {a : Act} {w : World} (hm : P.follows .mixedOrders = true) (hB : diesB L blk p = true) (hC : C w.drew)
    (h : wpQuiet P (diesOps L blk).toArray C (fun a' => ∀ U, C U → ∀ o, L[p]? = some o → o.wp P a' U (fun _ _ => False) (anySlots Q)) (diesOps L blk) a) : (Code.region id L.toArray true).wp P Q a w := by
  obtain ⟨o, hD⟩ := Dies.of hB
  refine wp_region_any hm ?_
  have hlx := hD.lex
  simp only [Region.lexB, Bool.and_eq_true] at hlx
  have hl := wpAnyQ_lex (C := C) (md := .any) hlx.1 (diesOps L blk) 0 (Array.replicate (diesOps L blk).length false) a (by simp) (by simpa using hlx.2) h
  refine dies_any (Q1 := fun a' => ∀ U, C U → ∀ o, L[p]? = some o → o.wp P a' U (fun _ _ => False) (anySlots Q)) hD (fun a h U hU => h U hU o hD.at_) _ _ a _ hC (by simp) ?_ ?_
  · intro i hi hil
    simp [hil]
  · rw [diesOps_len hD] at hl
    simpa using hl
end

/-- .. at the later worlds of w0. -/
theorem wp_region_dies_later (p : Nat) (blk : List Bool) {P : Program} (w0 : World) {id : Nat} {Q : Exit → Act → World → Prop} {a : Act} {w : World} {L : List Oper} (hm : P.follows .mixedOrders = true) (hB : diesB L blk p = true) (hC : Below w0.heap.size w0 w.drew)
    (h : wpQuiet P (diesOps L blk).toArray (fun U => ∃ s : Later w0, U = s.val) (fun a' => ∀ s : Later w0, ∀ o, L[p]? = some o → o.wp P a' s.val (fun _ _ => False) (anySlots Q)) (diesOps L blk) a) : (Code.region id L.toArray true).wp P Q a w := by
  refine wp_region_dies (C := fun U => ∃ s : Later w0, U = s.val) p blk hm hB (Later.iff.2 hC) ?_
  have e : (fun a' => ∀ U, (fun U => ∃ s : Later w0, U = s.val) U → ∀ o, L[p]? = some o → o.wp P a' U (fun _ _ => False) (anySlots Q)) = (fun a' => ∀ s : Later w0, ∀ o, L[p]? = some o → o.wp P a' s.val (fun _ _ => False) (anySlots Q)) := funext fun a' => propext ⟨fun hh s => hh _ ⟨s, rfl⟩, fun hh w' ⟨s, hs⟩ => by rw [hs]; exact hh s⟩
  rw [e]
  exact h

end Go.Proofs.Ytbkaopeajjechaa
