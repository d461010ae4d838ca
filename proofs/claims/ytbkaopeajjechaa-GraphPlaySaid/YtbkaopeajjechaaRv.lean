/- Regions that draw their order: as text Rs, but the operations of the chain may be guarded, and may stand in every order that the edges allow. No program in sight. -/
import Derived.Test.YtbkaopeajjechaaRs
namespace Go.Proofs.Ytbkaopeajjechaa
set_option linter.unusedVariables false
set_option linter.unusedSimpArgs false
open Go.RowKit

def allL : List Nat → (Nat → Prop) → Prop
  | [], _ => True
  | x :: xs, p => p x ∧ allL xs p
theorem allL.get {p : Nat → Prop} : ∀ {l : List Nat}, allL l p → ∀ {x}, x ∈ l → p x
  | y :: l, h, x, hx => by
    rcases List.mem_cons.1 hx with rfl | hx
    · exact h.1
    · exact h.2.get hx

/-- Which ones may come next. -/
def freeT (E : List (Nat × Nat)) (rem : List Nat) : List Nat := rem.filter fun s => rem.all fun u => !E.contains (s, u)

/-- The operations of the tree, in every order that the edges allow; one that is not wanted gives nothing. -/
def treeGp (P : Program) (C : World → Prop) (a : Act) (E : List (Nat × Nat)) (L : List Oper) (K : List (Option Tmp × Value) → World → Prop) : Nat → List Nat → List (Option Tmp × Value) → World → Prop
  | 0, _, ps, U => K ps U
  | n + 1, rem, ps, U => allL (freeT E rem) fun s => match L[s]? with
    | some o => (Region.wanted o (yielded L.toArray (applyP ps a).tmps) = true → Oper.wpV P o (applyP ps a) U fun v U' => C U' ∧ treeGp P C a E L K n (rem.erase s) (ps ++ [(o.dst, v)]) U') ∧
        (Region.wanted o (yielded L.toArray (applyP ps a).tmps) = false → C U ∧ treeGp P C a E L K n (rem.erase s) (ps ++ [(o.dst, undef)]) U)
    | none => True

theorem yielded_eval {ops : Array Oper} {a b : Act} {g : Nat} (h : ∀ d, (ops[g]?).bind (·.dst) = some d → a.eval (.tmp d) = b.eval (.tmp d)) : yielded ops a.tmps g = yielded ops b.tmps g := by
  unfold yielded
  cases hd : (ops[g]?).bind (·.dst) with
  | none => rfl
  | some d =>
    have h := h d hd
    simp only [Act.eval, Array.getD_eq_getD_getElem?] at h
    simp only [Option.bind_some]
    cases h1 : a.tmps[d]? with
    | none =>
      rw [h1] at h
      cases h2 : b.tmps[d]? with
      | none => rfl
      | some v =>
        rw [h2] at h
        simp only [Option.getD_none, Option.getD_some] at h
        rw [← h]
        rfl
    | some u =>
      rw [h1] at h
      cases h2 : b.tmps[d]? with
      | none =>
        rw [h2] at h
        simp only [Option.getD_none, Option.getD_some] at h
        rw [h]
        rfl
      | some v =>
        rw [h2] at h
        simp only [Option.getD_some] at h
        rw [h]

theorem wanted_eval {ops : Array Oper} {o : Oper} {a b : Act} (h : ∀ d ∈ o.looksAt ops, a.eval (.tmp d) = b.eval (.tmp d)) : Region.wanted o (yielded ops a.tmps) = Region.wanted o (yielded ops b.tmps) := by
  unfold Region.wanted
  cases hg : o.guard with
  | none => rfl
  | some y =>
    obtain ⟨g, w⟩ := y
    dsimp only
    rw [yielded_eval (fun d hd => h d (List.mem_append_right _ (by rw [hg]; simp only; rw [hd]; simp)))]

/-- What is asked of a region: kinds of operations (0: plain, 1: of the chain, 2: the last ones, from operation k on). -/
def treeGB (L : List Oper) (κ : List Nat) (k : Nat) (E : List (Nat × Nat)) : Bool :=
  Region.lexB .any (diesOps L (κ.map (· != 0))).toArray && decide (κ.length = L.length) && forcedB L k &&
  ((List.range L.length).all fun i => if i < k then (κ[i]? == some 0) || (κ[i]? == some 1) else κ[i]? == some 2) &&
  ((List.range L.length).all fun j => !(κ[j]? == some 0) || match L[j]? with | some o => plainOp o.op && (match o.guard with | some (g, _) => κ[g]? == some 0 | none => true) | none => true) &&
  (E.all fun p => match L[p.1]? with | some o => o.after.any fun e => Region.binds .any e && e.on == p.2 | none => false) &&
  ((List.range L.length).all fun s => !(κ[s]? == some 1) || match L[s]? with
    | some o => (match o.op with | .select .. => false | _ => true) &&
      ((List.range L.length).all fun j => !(κ[j]? == some 0) || match L[j]? with
        | some x => (match x.dst with | some d => !(o.looksAt L.toArray).contains d || o.after.any fun e => Region.binds .any e && e.on == j | none => true) &&
          (match o.dst with | some d => !(x.looksAt L.toArray).contains d && x.dst != some d | none => true)
        | none => true)
    | none => true)

structure TreeG (L : List Oper) (κ : List Nat) (k : Nat) (E : List (Nat × Nat)) : Prop where
  lex : Region.lexB .any (diesOps L (κ.map (· != 0))).toArray = true
  len : κ.length = L.length
  forced : Forced L k
  lo : ∀ i, i < k → κ[i]? = some 0 ∨ κ[i]? = some 1
  hi : ∀ i, k ≤ i → i < L.length → κ[i]? = some 2
  plain : ∀ (j : Nat) (o : Oper), κ[j]? = some 0 → L[j]? = some o → plainOp o.op = true
  grd : ∀ (j : Nat) (o : Oper) (g : Nat) (b : Bool), κ[j]? = some 0 → L[j]? = some o → o.guard = some (g, b) → κ[g]? = some 0
  edge : ∀ p ∈ E, ∃ o, L[p.1]? = some o ∧ ∃ e ∈ o.after, Region.binds .any e = true ∧ e.on = p.2
  sel : ∀ (s : Nat) (o : Oper), κ[s]? = some 1 → L[s]? = some o → ∀ cs b, o.op ≠ .select cs b
  look : ∀ (s j : Nat) (o x : Oper) (d : Tmp), κ[s]? = some 1 → L[s]? = some o → κ[j]? = some 0 → L[j]? = some x → x.dst = some d → d ∈ o.looksAt L.toArray → ∃ e ∈ o.after, Region.binds .any e = true ∧ e.on = j
  apart : ∀ (s j : Nat) (o x : Oper) (d : Tmp), κ[s]? = some 1 → L[s]? = some o → κ[j]? = some 0 → L[j]? = some x → o.dst = some d → d ∉ x.looksAt L.toArray ∧ x.dst ≠ some d

theorem TreeG.of {L : List Oper} {κ : List Nat} {k : Nat} {E : List (Nat × Nat)} (h : treeGB L κ k E = true) : TreeG L κ k E := by
  unfold treeGB at h
  simp only [Bool.and_eq_true, decide_eq_true_eq, List.all_eq_true, List.mem_range] at h
  obtain ⟨⟨⟨⟨⟨⟨h1, h2⟩, h3⟩, h4⟩, h5⟩, h6⟩, h7⟩ := h
  have inr : ∀ (j : Nat) (o : Oper), L[j]? = some o → j < L.length := fun j o ho => (List.getElem?_eq_some_iff.1 ho).1
  refine ⟨h1, h2, Forced.of h3, ?_, ?_, ?_, ?_, ?_, ?_, ?_, ?_⟩
  · intro i hi
    have := h4 i (by have := (Forced.of h3).lt; omega)
    rw [if_pos hi] at this
    simpa using this
  · intro i hi hl
    have := h4 i hl
    rw [if_neg (by omega)] at this
    simpa using this
  · intro j o hk ho
    have := h5 j (inr j o ho)
    rw [hk, ho] at this
    simp at this
    exact this.1
  · intro j o g b hk ho hg
    have := h5 j (inr j o ho)
    rw [hk, ho] at this
    simp [hg] at this
    exact this.2
  · intro p hp
    have := h6 p hp
    cases ho : L[p.1]? with
    | none => rw [ho] at this; cases this
    | some o =>
      rw [ho] at this
      simp only [Array.any_eq_true, Bool.and_eq_true, beq_iff_eq] at this
      obtain ⟨q, hq, hb, he⟩ := this
      exact ⟨o, rfl, o.after[q], Array.getElem_mem hq, hb, he⟩
  · intro s o hk ho cs b e
    have := h7 s (inr s o ho)
    rw [hk, ho] at this
    simp [e] at this
  · intro s j o x d hk ho hj hx hd hl
    have h := h7 s (inr s o ho)
    rw [hk, ho] at h
    simp only [beq_self_eq_true, Bool.not_true, Bool.false_or, Bool.and_eq_true, List.all_eq_true, List.mem_range] at h
    have := h.2 j (inr j x hx)
    rw [hj, hx] at this
    simp only [beq_self_eq_true, Bool.not_true, Bool.false_or, Bool.and_eq_true, hd] at this
    have h9 := this.1
    simp only [Bool.or_eq_true, Bool.not_eq_true', Array.any_eq_true, Bool.and_eq_true, beq_iff_eq] at h9
    rcases h9 with h | h
    · rw [List.contains_iff_mem.2 hl] at h; cases h
    · obtain ⟨q, hq, hb, he⟩ := h
      exact ⟨o.after[q], Array.getElem_mem hq, hb, he⟩
  · intro s j o x d hk ho hj hx hd
    have h := h7 s (inr s o ho)
    rw [hk, ho] at h
    simp only [beq_self_eq_true, Bool.not_true, Bool.false_or, Bool.and_eq_true, List.all_eq_true, List.mem_range] at h
    have := h.2 j (inr j x hx)
    rw [hj, hx] at this
    simp only [beq_self_eq_true, Bool.not_true, Bool.false_or, Bool.and_eq_true, hd] at this
    obtain ⟨-, h8, h9⟩ := this
    exact ⟨(fun hm => by rw [List.contains_iff_mem.2 hm] at h8; cases h8), by simpa using h9⟩

section
variable {P : Program} {L : List Oper} {κ : List Nat} {k : Nat} {E : List (Nat × Nat)} {C : World → Prop} {Q : Exit → Act → World → Prop} {af : Act}

theorem treeGOps_at (hD : TreeG L κ k E) (i : Nat) : (diesOps L (kblk κ))[i]? = (L[i]?).map fun x => if κ[i]? = some 0 then x else idle x := by
  unfold diesOps
  rw [List.getElem?_zipWith]
  cases hx : L[i]? with
  | none => simp
  | some x =>
    have hi : i < L.length := (List.getElem?_eq_some_iff.1 hx).1
    have : κ[i]? = some (κ[i]'(by rw [hD.len]; exact hi)) := List.getElem?_eq_getElem _
    rw [List.getElem?_map, this]
    by_cases e : κ[i]'(by rw [hD.len]; exact hi) = 0 <;> simp [e]

theorem treeGOps_len (hD : TreeG L κ k E) : (diesOps L (kblk κ)).length = L.length := by
  unfold diesOps
  simp [hD.len]

theorem ready_treeG (hD : TreeG L κ k E) (listed : Array Bool) : Region.ready .any (diesOps L (kblk κ)).toArray listed = Region.ready .any L.toArray listed := by
  unfold Region.ready
  simp only [List.size_toArray, treeGOps_len hD, List.getElem?_toArray]
  apply List.filter_congr
  intro i _
  rw [treeGOps_at hD i]
  cases L[i]? with
  | none => rfl
  | some x =>
    simp only [Option.map_some]
    split <;> rfl

/-- Slots that o looks at, and how many there are, stay through the plain operations that are left. -/
theorem treeG_agree (hD : TreeG L κ k E) {s : Nat} {o : Oper} (hs1 : κ[s]? = some 1) (hso : L[s]? = some o) : ∀ (fuel : Nat) (listed : Array Bool) (a : Act), listed.size = L.length →
    (∀ e ∈ o.after, Region.binds .any e = true → listed[e.on]? = some true) → wpAnyQ P .any (diesOps L (kblk κ)).toArray C (fun a' => a' = af) fuel listed a →
    (∀ d ∈ o.looksAt L.toArray, af.eval (.tmp d) = a.eval (.tmp d)) ∧ af.tmps.size = a.tmps.size
  | 0, _, a, _, _, h => by rw [h.2]; exact ⟨fun _ _ => rfl, rfl⟩
  | fuel + 1, listed, a, hs, hp, h => by
    unfold wpAnyQ at h
    cases hr : Region.ready .any (diesOps L (kblk κ)).toArray listed with
    | nil => rw [← h.1 hr]; exact ⟨fun _ _ => rfl, rfl⟩
    | cons i r =>
      have hi : i ∈ Region.ready .any (diesOps L (kblk κ)).toArray listed := by rw [hr]; simp
      have hq := h.2 i hi
      rw [ready_treeG hD] at hi
      obtain ⟨hl, x, hx, -⟩ := (mem_ready' hs).1 hi
      have hil : i < L.length := (List.getElem?_eq_some_iff.1 hx).1
      have key : ∀ a1 : Act, (∀ d ∈ o.looksAt L.toArray, a1.eval (.tmp d) = a.eval (.tmp d)) → a1.tmps.size = a.tmps.size → wpAnyQ P .any (diesOps L (kblk κ)).toArray C (fun a' => a' = af) fuel (listed.setIfInBounds i true) a1 →
          (∀ d ∈ o.looksAt L.toArray, af.eval (.tmp d) = a.eval (.tmp d)) ∧ af.tmps.size = a.tmps.size := fun a1 e1 e2 hK => by
        obtain ⟨q1, q2⟩ := treeG_agree hD hs1 hso fuel _ a1 (by rw [Array.size_setIfInBounds]; exact hs) (fun e he hb => by
          rw [Array.getElem?_setIfInBounds]
          by_cases e2 : i = e.on
          · rw [if_pos e2, if_pos (by omega)]
          · rw [if_neg e2]; exact hp e he hb) hK
        exact ⟨fun x hx => (q1 x hx).trans (e1 x hx), q2.trans e2⟩
      have hput : ∀ (y : Oper) (v : Value), (diesOps L (kblk κ))[i]? = some y → ∀ x ∈ o.looksAt L.toArray, (a.put y.dst v).eval (.tmp x) = a.eval (.tmp x) := fun y v hy z hz => by
        refine Act.eval_put fun d hd hzd => ?_
        rw [treeGOps_at hD i, hx] at hy
        simp only [Option.map_some, Option.some.injEq] at hy
        by_cases hb : κ[i]? = some 0
        · rw [if_pos hb] at hy
          subst hy
          obtain ⟨e, he, hbd, hon⟩ := hD.look s i o x d hs1 hso hb hx hd (by injection hzd with hzd; subst hzd; exact hz)
          have := hp e he hbd
          rw [hon, hl] at this
          cases this
        · rw [if_neg hb] at hy
          rw [← hy] at hd
          cases hd
      have hsz : ∀ (d : Option Tmp) (v : Value), (a.put d v).tmps.size = a.tmps.size := fun d v => by
        cases d with
        | none => rfl
        | some d => simp [Act.put]
      unfold qOp at hq
      rw [List.getElem?_toArray] at hq
      cases hy : (diesOps L (kblk κ))[i]? with
      | none =>
        rw [hy] at hq
        exact key a (fun _ _ => rfl) rfl hq
      | some y =>
        rw [hy] at hq
        dsimp only at hq
        split at hq
        · obtain ⟨v, -, hK⟩ := hq
          exact key _ (hput y v hy) (hsz _ _) hK
        · exact key _ (hput y _ hy) (hsz _ _) hq

theorem wanted_treeG (hD : TreeG L κ k E) {i : Nat} {x : Oper} (hx : L[i]? = some x) (hb : κ[i]? = some 0) (tmps : Array Value) :
    Region.wanted x (yielded (diesOps L (kblk κ)).toArray tmps) = Region.wanted x (yielded L.toArray tmps) := by
  unfold Region.wanted
  cases hg : x.guard with
  | none => rfl
  | some y =>
    obtain ⟨g, b⟩ := y
    have hgb := hD.grd i x g b hb hx hg
    have : yielded (diesOps L (kblk κ)).toArray tmps g = yielded L.toArray tmps g := by
      unfold yielded
      rw [List.getElem?_toArray, List.getElem?_toArray, treeGOps_at hD g, hgb]
      cases L[g]? <;> simp
    simp only [this]

/-- Through the idle ones behind operation k. -/
theorem idle_treeG (hD : TreeG L κ k E) : ∀ (fuel i : Nat) (listed : Array Bool) (a : Act), Upto L listed i → k ≤ i → i ≤ L.length → wpAnyQ P .any (diesOps L (kblk κ)).toArray C (fun a' => a' = af) fuel listed a → a = af ∧ L.length - i ≤ fuel
  | 0, i, listed, a, hU, hk, hi, h => by
    unfold wpAnyQ at h
    rw [ready_treeG hD] at h
    by_cases hlt : i < L.length
    · have := hU.ready hD.forced hlt
      rw [h.1] at this
      cases this
    · exact ⟨h.2, by omega⟩
  | fuel + 1, i, listed, a, hU, hk, hi, h => by
    unfold wpAnyQ at h
    rw [ready_treeG hD] at h
    by_cases hlt : i < L.length
    · have hq := h.2 i (hU.ready hD.forced hlt)
      unfold qOp at hq
      rw [List.getElem?_toArray, treeGOps_at hD, List.getElem?_eq_getElem hlt] at hq
      simp only [Option.map_some] at hq
      have hne : ¬ κ[i]? = some 0 := by rw [hD.hi i hk hlt]; simp
      simp only [hne, if_false] at hq
      rw [if_pos (by simp [Region.wanted, idle])] at hq
      obtain ⟨v, -, hK⟩ := hq
      have := idle_treeG hD fuel (i + 1) _ a hU.next (by omega) (by omega) hK
      exact ⟨this.1, by omega⟩
    · obtain rfl : i = L.length := by omega
      exact ⟨h.1 hU.none, by omega⟩

theorem treeG_any (hD : TreeG L κ k E) : ∀ (fuel : Nat) (listed : Array Bool) (a : Act) (ps : List (Option Tmp × Value)) (n : Nat) (rem : List Nat) (U : World), C U → listed.size = L.length →
      (∀ (s : Nat) (o : Oper), L[s]? = some o → listed[s]? = some true → ∀ e ∈ o.after, Region.binds .any e = true → listed[e.on]? = some true) →
      (∀ i, k ≤ i → i < L.length → listed[i]? = some false) → n = rem.length → rem.Nodup → (∀ i ∈ rem, κ[i]? = some 1 ∧ i < k) → (∀ i, i < k → κ[i]? = some 1 → i ∉ rem → listed[i]? = some true) → (∀ i ∈ rem, listed[i]? = some false) →
      (∀ p ∈ ps, ∀ d, p.1 = some d → ∃ (s : Nat) (o : Oper), κ[s]? = some 1 ∧ L[s]? = some o ∧ o.dst = some d) →
      treeGp P C af E L (fun ps U => wpList P L.toArray Q (L.drop k) (applyP ps af) U) n rem ps U →
      wpAnyQ P .any (diesOps L (kblk κ)).toArray C (fun a' => a' = af) fuel listed a → wpAny P .any L.toArray Q fuel listed (applyP ps a) U
  | 0, listed, a, ps, n, rem, U, hU, hs, hc, hp, hn, hnd, hrk, hd, hr, hps, hS, h => by
    unfold wpAnyQ at h
    rw [ready_treeG hD] at h
    obtain ⟨i, hi⟩ := ready_some hD.forced hs k (hp k (Nat.le_refl _) hD.forced.lt)
    rw [h.1] at hi
    cases hi
  | fuel + 1, listed, a, ps, n, rem, U, hU, hs, hc, hp, hn, hnd, hrk, hd, hr, hps, hS, h => by
    have h' := h
    unfold wpAnyQ at h
    rw [ready_treeG hD] at h
    refine ⟨fun h0 => ?_, fun i hi => ?_⟩
    · obtain ⟨i, hi⟩ := ready_some hD.forced hs k (hp k (Nat.le_refl _) hD.forced.lt)
      rw [h0] at hi
      cases hi
    obtain ⟨hl, x, hx, haf⟩ := (mem_ready' hs).1 hi
    have hil : i < L.length := (List.getElem?_eq_some_iff.1 hx).1
    have hcs : ∀ (s : Nat) (o : Oper), L[s]? = some o → (listed.setIfInBounds i true)[s]? = some true → ∀ e ∈ o.after, Region.binds .any e = true → (listed.setIfInBounds i true)[e.on]? = some true := by
      intro s o ho hl2 e he hb
      rw [Array.getElem?_setIfInBounds] at hl2 ⊢
      by_cases e2 : i = e.on
      · rw [if_pos e2, if_pos (by omega)]
      · rw [if_neg e2]
        by_cases e1 : i = s
        · subst e1
          rw [hx] at ho
          cases ho
          exact haf e he hb
        · rw [if_neg e1] at hl2
          exact hc s o ho hl2 e he hb
    have hset : ∀ j, j ≠ i → (listed.setIfInBounds i true)[j]? = listed[j]? := fun j hj => by rw [Array.getElem?_setIfInBounds, if_neg (fun e => hj e.symm)]
    by_cases hik : i < k
    · rcases hD.lo i hik with hκ | hκ
      · -- a plain operation
        have hq := h.2 i hi
        have hmem : ∀ j, κ[j]? = some 1 → j ≠ i := fun j hj e => by rw [e, hκ] at hj; cases hj
        have hap : ∀ p ∈ ps, ∀ d, p.1 = some d → d ∉ x.looksAt L.toArray ∧ x.dst ≠ some d := fun p hp' d hpd => by
          obtain ⟨s, o, q1, q2, q3⟩ := hps p hp' d hpd
          exact hD.apart s i o x d q1 q2 hκ hx q3
        have go : ∀ v, wpAnyQ P .any (diesOps L (kblk κ)).toArray C (fun a' => a' = af) fuel (listed.setIfInBounds i true) (a.put x.dst v) →
            wpAny P .any L.toArray Q fuel (listed.setIfInBounds i true) ((applyP ps a).put x.dst v) U := fun v hK => by
          rw [applyP_put ps a x.dst v (fun p hp' d hpd => (hap p hp' d hpd).2)]
          exact treeG_any hD fuel _ _ ps n rem U hU (by rw [Array.size_setIfInBounds]; exact hs) hcs (fun j hj hjl => by rw [hset j (by omega)]; exact hp j hj hjl) hn hnd hrk
            (fun j hjk hj hjr => by rw [hset j (hmem j hj)]; exact hd j hjk hj hjr) (fun j hj => by rw [hset j (hmem j (hrk j hj).1)]; exact hr j hj) hps hS hK
        unfold qOp at hq
        rw [List.getElem?_toArray, treeGOps_at hD, hx] at hq
        simp only [Option.map_some, hκ, if_true] at hq
        unfold wpOp
        rw [List.getElem?_toArray, hx]
        dsimp only
        rw [applyP_wanted (ops := L.toArray) x ps a (fun p hp' d hpd => (hap p hp' d hpd).1)]
        rw [wanted_treeG hD hx hκ] at hq
        split
        · rename_i hw
          rw [if_pos hw] at hq
          obtain ⟨v, hv, hK⟩ := hq
          left
          have hv := hv U hU
          have hsel : ∀ cs b, x.op ≠ .select cs b := fun cs b e => by
            have := hD.plain i x hκ hx
            rw [e] at this
            cases this
          unfold Oper.wp
          rw [applyP_exec (ops := L.toArray) x hsel ps a (fun p hp' d hpd => (hap p hp' d hpd).1)]
          unfold Oper.quietAt at hv
          have hne := fun w' f args => plain_enter (P := P) (ρ := a.eval) (hD.plain i x hκ hx) (w := U) (w' := w') (f := f) (args := args)
          generalize (execOp a.eval x).run P U = r at hv hne ⊢
          cases r with
          | ok n w' =>
            cases n <;> simp only [Oper.quietUpon] at hv <;> simp only [Oper.upon]
            case value u =>
              obtain ⟨rfl, rfl⟩ := hv
              exact go _ hK
            case skip =>
              obtain ⟨rfl, rfl⟩ := hv
              exact go _ hK
            case enter f args => exact absurd rfl (hne _ _ _)
          | halt _ _ => simp only [Oper.quietUpon] at hv
        · rename_i hw
          rw [if_neg hw] at hq
          exact go _ hq
      · -- one of the chain
        have hir : i ∈ rem := Classical.byContradiction fun hn' => by
          rw [hd i hik hκ hn'] at hl
          cases hl
        have hfr : i ∈ freeT E rem := by
          unfold freeT
          rw [List.mem_filter]
          refine ⟨hir, List.all_eq_true.2 fun u hu => ?_⟩
          rw [Bool.not_eq_true', Bool.eq_false_iff]
          intro hcn
          obtain ⟨o, ho, e', he, hb, hon⟩ := hD.edge (i, u) (List.contains_iff_mem.1 hcn)
          have ho : L[i]? = some o := ho
          rw [hx] at ho
          cases ho
          have h1 := haf e' he hb
          rw [hon, hr u hu] at h1
          cases h1
        obtain ⟨m, hm⟩ : ∃ m, n = m + 1 := ⟨n - 1, by have := List.length_pos_of_mem hir; omega⟩
        subst hm
        · unfold treeGp at hS
          have hS := hS.get hfr
          have hq := h.2 i hi
          unfold qOp at hq
          rw [List.getElem?_toArray, treeGOps_at hD, hx] at hq
          simp only [Option.map_some] at hq
          have hne : ¬ κ[i]? = some 0 := by rw [hκ]; simp
          simp only [hne, if_false] at hq
          rw [if_pos (by simp [Region.wanted, idle])] at hq
          obtain ⟨v0, -, hK⟩ := hq
          have hK : wpAnyQ P .any (diesOps L (kblk κ)).toArray C (fun a' => a' = af) fuel (listed.setIfInBounds i true) a := hK
          obtain ⟨ag, asz⟩ := treeG_agree hD hκ hx (fuel + 1) listed a hs haf h'
          simp only [hx] at hS
          have hexe : execOp (applyP ps af).eval x = execOp (applyP ps a).eval x := execOp_congr x (hD.sel i x hκ hx) (fun y hy => applyP_eval ps af a y asz (by
            cases y with
            | tmp d => exact ag d (List.mem_append_left _ (List.mem_filterMap.2 ⟨.tmp d, by simpa using hy, rfl⟩))
            | _ => rfl))
          have hwe : Region.wanted x (yielded L.toArray (applyP ps af).tmps) = Region.wanted x (yielded L.toArray (applyP ps a).tmps) := wanted_eval (fun d hd => applyP_eval ps af a (.tmp d) asz (ag d hd))
          rw [hwe] at hS
          obtain ⟨hS, hSn⟩ := hS
          have go : ∀ v U', C U' ∧ treeGp P C af E L (fun ps U => wpList P L.toArray Q (L.drop k) (applyP ps af) U) m (rem.erase i) (ps ++ [(x.dst, v)]) U' →
              wpAny P .any L.toArray Q fuel (listed.setIfInBounds i true) ((applyP ps a).put x.dst v) U' := fun v U' hv => by
            rw [← applyP_snoc]
            have hne : ∀ j, j ∈ rem.erase i → j ≠ i := fun j hj e => by subst e; exact (List.Nodup.not_mem_erase hnd) hj
            exact treeG_any hD fuel _ _ _ m (rem.erase i) U' hv.1 (by rw [Array.size_setIfInBounds]; exact hs) hcs (fun j hj hjl => by rw [hset j (by omega)]; exact hp j hj hjl) (by rw [List.length_erase_of_mem hir]; omega) (hnd.erase i) (fun j hj => hrk j (List.mem_of_mem_erase hj))
              (fun j hjk hj hjr => by
                by_cases e : j = i
                · subst e
                  rw [Array.getElem?_setIfInBounds, if_pos rfl, if_pos (by omega)]
                · rw [hset j e]
                  exact hd j hjk hj (fun hm => hjr ((List.mem_erase_of_ne e).2 hm)))
              (fun j hj => by rw [hset j (hne j hj)]; exact hr j (List.mem_of_mem_erase hj))
              (fun p hp' d hpd => by
                rcases List.mem_append.1 hp' with hp' | hp'
                · exact hps p hp' d hpd
                · obtain rfl : p = (x.dst, v) := by simpa using hp'
                  exact ⟨i, x, hκ, hx, hpd⟩) hv.2 hK
          unfold wpOp
          rw [List.getElem?_toArray, hx]
          dsimp only
          cases hww : Region.wanted x (yielded L.toArray (applyP ps a).tmps) with
          | false =>
            rw [if_neg (by simp)]
            exact go _ _ (hSn hww)
          | true =>
          have hS := hS hww
          unfold Oper.wpV at hS
          rw [hexe] at hS
          rw [if_pos rfl]
          left
          unfold Oper.wp
          generalize (execOp (applyP ps a).eval x).run P U = r at hS ⊢
          cases r with
          | ok n w' =>
            cases n <;> simp only [Oper.upon] at hS ⊢
            case value u => exact go _ _ hS
            case skip => exact go _ _ hS
            case enter f args =>
              exact hS.mono fun e w'' ⟨v, he, hv⟩ => by subst he; exact go _ _ hv
          | halt _ _ => exact hS.elim
    · -- the first of the last ones
      have hall : ∀ d j, j + d + 1 = i → listed[j]? = some true := by
        intro d
        induction d using Nat.strongRecOn with
        | ind d ih =>
          intro j hj
          obtain ⟨s, o, h1, h2, h3, e', he, hb, hon⟩ := hD.forced.next j (by omega)
          by_cases e : s = i
          · subst e
            rw [h3] at hx
            cases hx
            have := haf e' he hb
            rwa [hon] at this
          · have hls := ih (i - s - 1) (by omega) s (by omega)
            have := hc s o h3 hls e' he hb
            rwa [hon] at this
      obtain rfl : i = k := by
        by_cases e : i = k
        · exact e
        · exfalso
          have h1 := hall (i - k - 1) k (by omega)
          rw [hp k (Nat.le_refl _) hD.forced.lt] at h1
          cases h1
      have hUp : Upto L listed i := ⟨hs, fun j hj => by
        by_cases hlt : j < i
        · rw [hall (i - j - 1) j (by omega)]; simp [hlt]
        · rw [hp j (by omega) hj]; simp [hlt]⟩
      obtain ⟨rfl, hf⟩ := idle_treeG hD (fuel + 1) i listed a hUp (Nat.le_refl _) (by omega) h'
      have hrn : rem = [] := by
        cases rem with
        | nil => rfl
        | cons s rest =>
          exfalso
          have hm := (hrk s List.mem_cons_self).2
          have h1 := hr s List.mem_cons_self
          rw [hall (i - s - 1) s (by omega)] at h1
          cases h1
      subst hrn
      subst hn
      exact (tail_any hD.forced (fuel + 1) i listed (applyP ps a) U hUp (Nat.le_refl _) (by omega) hf hS).2 i hi

/-- The plain operations once, in the text's order; then the chain; then the last ones as they stand. -/
theorem wp_region_treeG (κ : List Nat) (k : Nat) (E : List (Nat × Nat)) {id : Nat} {a : Act} {w : World} (hm : P.follows .mixedOrders = true) (hB : treeGB L κ k E = true) (hC : C w.drew)
    (h : wpQuiet P (diesOps L (kblk κ)).toArray C (fun a' => treeGp P C a' E L (fun ps U => wpList P L.toArray Q (L.drop k) (applyP ps a') U) (sideIdx κ k).length (sideIdx κ k) [] w.drew) (diesOps L (kblk κ)) a) : (Code.region id L.toArray true).wp P Q a w := by
  have hD := TreeG.of hB
  refine wp_region_any hm ?_
  have hlx := hD.lex
  simp only [Region.lexB, Bool.and_eq_true] at hlx
  obtain ⟨af, h1, h2⟩ := quiet_end _ _ h
  have hl := wpAnyQ_lex (C := C) (md := .any) hlx.1 (diesOps L (kblk κ)) 0 (Array.replicate (diesOps L (kblk κ)).length false) a (by simp) (by simpa using hlx.2) h2
  have hmS : ∀ i, i ∈ sideIdx κ k ↔ i < k ∧ κ[i]? = some 1 := fun i => by
    unfold sideIdx
    simp only [List.mem_filter, List.mem_range, beq_iff_eq]
  have := treeG_any (Q := Q) hD _ (Array.replicate (diesOps L (kblk κ)).length false) a [] _ (sideIdx κ k) w.drew hC (by simp [treeGOps_len hD]) ?_ ?_ rfl (List.Nodup.sublist List.filter_sublist List.nodup_range) (fun i hi => ((hmS i).1 hi).symm) (fun i h1 h2 h3 => absurd ((hmS i).2 ⟨h1, h2⟩) h3) ?_ (fun p hp => by cases hp) h1 hl
  · rw [treeGOps_len hD] at this
    rw [show applyP [] a = a from rfl] at this
    simpa using this
  · intro s o ho hl e he hb
    rw [Array.getElem?_replicate] at hl
    split at hl <;> simp at hl
  · intro i hi hil
    simp [treeGOps_len hD, hil]
  · intro i hi
    unfold sideIdx at hi
    simp only [List.mem_filter, List.mem_range] at hi
    have := hD.forced.lt
    have h2 : i < L.length := by omega
    simp [treeGOps_len hD, h2]
end

/-- .. at the later worlds of w0. -/
theorem wp_region_treeG_later (κ : List Nat) (k : Nat) (E : List (Nat × Nat)) {P : Program} (w0 : World) {id : Nat} {Q : Exit → Act → World → Prop} {a : Act} {w : World} {L : List Oper} (hm : P.follows .mixedOrders = true) (hB : treeGB L κ k E = true) (hC : Below w0.heap.size w0 w.drew)
    (h : wpQuiet P (diesOps L (kblk κ)).toArray (fun U => ∃ s : Later w0, U = s.val) (fun a' => treeGp P (fun U => Below w0.heap.size w0 U) a' E L (fun ps U => wpList P L.toArray Q (L.drop k) (applyP ps a') U) (sideIdx κ k).length (sideIdx κ k) [] w.drew) (diesOps L (kblk κ)) a) : (Code.region id L.toArray true).wp P Q a w := by
  refine wp_region_treeG (C := fun U => ∃ s : Later w0, U = s.val) κ k E hm hB (Later.iff.2 hC) ?_
  have e : (fun U => ∃ s : Later w0, U = s.val) = (fun U => Below w0.heap.size w0 U) := funext fun U => propext Later.iff
  rw [e] at h ⊢
  exact h
end Go.Proofs.Ytbkaopeajjechaa
