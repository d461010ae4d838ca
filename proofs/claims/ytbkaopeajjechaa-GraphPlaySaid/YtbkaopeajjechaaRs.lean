/- Regions that draw their order: plain operations that keep to a class of worlds; beside them a chain of operations whose answers may hang on the world; and last ones that wait for all. No program in sight. -/
import Derived.Test.YtbkaopeajjechaaRd
namespace Go.Proofs.Ytbkaopeajjechaa
set_option linter.unusedVariables false
set_option linter.unusedSimpArgs false
open Go.RowKit

/-- One operation, its value and world handed on; it does not panic. -/
def Oper.wpV (P : Program) (o : Oper) (a : Act) (U : World) (K : Value → World → Prop) : Prop :=
  match (execOp a.eval o).run P U with
  | .ok (.value v) w' => K v w'
  | .ok .skip w' => K undef w'
  | .ok (.enter f args) w' => Calls P f args w' fun e w'' => ∃ v, e = .returned v ∧ K v w''
  | _ => False

def applyP (ps : List (Option Tmp × Value)) (a : Act) : Act := ps.foldl (fun a p => a.put p.1 p.2) a

/-- The operations of the chain, one behind the other. -/
def sideWp (P : Program) (C : World → Prop) (a : Act) (K : List (Option Tmp × Value) → World → Prop) : List Oper → List (Option Tmp × Value) → World → Prop
  | [], ps, U => K ps U
  | s :: r, ps, U => Oper.wpV P s (applyP ps a) U fun v U' => C U' ∧ sideWp P C a K r (ps ++ [(s.dst, v)]) U'

/-- An operation that enters no function. -/
def plainOp : Op → Bool
  | .move _ | .assign _ | .pick .. | .load .. | .fieldAddr .. | .indexAddr .. | .nilCheck _ | .build .. | .binOp .. | .unOp .. | .index .. | .extract .. => true
  | _ => false

theorem plain_enter {P : Program} {ρ : Operand → Value} {o : Oper} (h : plainOp o.op = true) {w w' : World} {f : FuncId} {args : Array Value} : (execOp ρ o).run P w ≠ .ok (.enter f args) w' := by
  have key : ∀ {α : Type} (s : Sem α) (g : α → Value), (do pure (Next.value (g (← s))) : Sem Next).run P w ≠ .ok (.enter f args) w' := fun s g => by
    rw [Sem.run_bind]
    cases s.run P w with
    | ok v w1 => simp
    | halt x w1 => simp
  have keyN : ∀ (s : Sem (Option Bool)) (x : Value) (u : Sem Unit), (do
      let b ← s
      if b != some false then
        u
      pure (Next.value x) : Sem Next).run P w ≠ .ok (.enter f args) w' := fun s x u => by
    rw [Sem.run_bind]
    cases s.run P w with
    | ok v w1 =>
      simp only [Result.andThen_ok]
      split
      · rw [Sem.run_bind]
        cases u.run P w1 with
        | ok v w2 => simp
        | halt x w2 => simp
      · simp
    | halt x w1 => simp
  unfold execOp
  cases ho : o.op <;> rw [ho] at h <;> first | (cases h; done) | exact key _ id | (simp; done) | skip
  · rename_i c x y
    exact key (asBool (ρ c)) (fun b => if b = true then ρ x else ρ y)
  · dsimp only
    split <;> first | (simp [runtimePanic]; done) | skip
    split <;> first | (simp [runtimePanic]; done) | skip
    rw [Sem.run_bind]
    simp only [run_program, Result.andThen_ok]
    exact keyN _ _ _

def sideIdx (κ : List Nat) (k : Nat) : List Nat := (List.range k).filter fun i => κ[i]? == some 1

def chainB (L : List Oper) : List Nat → Bool
  | [] => true
  | [_] => true
  | s :: u :: r => (match L[u]? with | some o => o.after.any fun e => Region.binds .any e && e.on == s | none => false) && chainB L (u :: r)

/-- What is asked of a region: kinds of operations (0: plain, 1: of the chain, 2: the last ones, from operation k on). -/
def sideB (L : List Oper) (κ : List Nat) (k : Nat) : Bool :=
  Region.lexB .any (diesOps L (κ.map (· != 0))).toArray && decide (κ.length = L.length) && forcedB L k &&
  ((List.range L.length).all fun i => if i < k then (κ[i]? == some 0) || (κ[i]? == some 1) else κ[i]? == some 2) &&
  ((List.range L.length).all fun j => !(κ[j]? == some 0) || match L[j]? with | some o => plainOp o.op && (match o.guard with | some (g, _) => κ[g]? == some 0 | none => true) | none => true) &&
  chainB L (sideIdx κ k) &&
  ((List.range L.length).all fun s => !(κ[s]? == some 1) || match L[s]? with
    | some o => o.guard.isNone && (match o.op with | .select .. => false | _ => true) &&
      ((List.range L.length).all fun j => !(κ[j]? == some 0) || match L[j]? with
        | some x => (match x.dst with | some d => !(o.looksAt L.toArray).contains d || o.after.any fun e => Region.binds .any e && e.on == j | none => true) &&
          (match o.dst with | some d => !(x.looksAt L.toArray).contains d && x.dst != some d | none => true)
        | none => true)
    | none => true)

structure Side (L : List Oper) (κ : List Nat) (k : Nat) : Prop where
  lex : Region.lexB .any (diesOps L (κ.map (· != 0))).toArray = true
  len : κ.length = L.length
  forced : Forced L k
  lo : ∀ i, i < k → κ[i]? = some 0 ∨ κ[i]? = some 1
  hi : ∀ i, k ≤ i → i < L.length → κ[i]? = some 2
  plain : ∀ (j : Nat) (o : Oper), κ[j]? = some 0 → L[j]? = some o → plainOp o.op = true
  grd : ∀ (j : Nat) (o : Oper) (g : Nat) (b : Bool), κ[j]? = some 0 → L[j]? = some o → o.guard = some (g, b) → κ[g]? = some 0
  chain : chainB L (sideIdx κ k) = true
  sgrd : ∀ (s : Nat) (o : Oper), κ[s]? = some 1 → L[s]? = some o → o.guard = none
  sel : ∀ (s : Nat) (o : Oper), κ[s]? = some 1 → L[s]? = some o → ∀ cs b, o.op ≠ .select cs b
  look : ∀ (s j : Nat) (o x : Oper) (d : Tmp), κ[s]? = some 1 → L[s]? = some o → κ[j]? = some 0 → L[j]? = some x → x.dst = some d → d ∈ o.looksAt L.toArray → ∃ e ∈ o.after, Region.binds .any e = true ∧ e.on = j
  apart : ∀ (s j : Nat) (o x : Oper) (d : Tmp), κ[s]? = some 1 → L[s]? = some o → κ[j]? = some 0 → L[j]? = some x → o.dst = some d → d ∉ x.looksAt L.toArray ∧ x.dst ≠ some d

theorem Side.of {L : List Oper} {κ : List Nat} {k : Nat} (h : sideB L κ k = true) : Side L κ k := by
  unfold sideB at h
  simp only [Bool.and_eq_true, decide_eq_true_eq, List.all_eq_true, List.mem_range] at h
  obtain ⟨⟨⟨⟨⟨⟨h1, h2⟩, h3⟩, h4⟩, h5⟩, h6⟩, h7⟩ := h
  have inr : ∀ (j : Nat) (o : Oper), L[j]? = some o → j < L.length := fun j o ho => (List.getElem?_eq_some_iff.1 ho).1
  refine ⟨h1, h2, Forced.of h3, ?_, ?_, ?_, ?_, h6, ?_, ?_, ?_, ?_⟩
  · intro i hi
    have := h4 i (by have := (Forced.of h3).lt; omega)
    rw [if_pos hi] at this
    simpa using this
  · intro i hi hl
    have := h4 i hl
    rw [if_neg (by omega)] at this
    simpa using this
  · intro j o hk ho
    have := h5 j (inr j o ho)
    rw [hk, ho] at this
    simp at this
    exact this.1
  · intro j o g b hk ho hg
    have := h5 j (inr j o ho)
    rw [hk, ho] at this
    simp [hg] at this
    exact this.2
  · intro s o hk ho
    have := h7 s (inr s o ho)
    rw [hk, ho] at this
    simp at this
    exact this.1.1
  · intro s o hk ho cs b e
    have := h7 s (inr s o ho)
    rw [hk, ho] at this
    simp [e] at this
  · intro s j o x d hk ho hj hx hd hl
    have h := h7 s (inr s o ho)
    rw [hk, ho] at h
    simp only [beq_self_eq_true, Bool.not_true, Bool.false_or, Bool.and_eq_true, List.all_eq_true, List.mem_range] at h
    have := h.2 j (inr j x hx)
    rw [hj, hx] at this
    simp only [beq_self_eq_true, Bool.not_true, Bool.false_or, Bool.and_eq_true, hd] at this
    have h9 := this.1
    simp only [Bool.or_eq_true, Bool.not_eq_true', Array.any_eq_true, Bool.and_eq_true, beq_iff_eq] at h9
    rcases h9 with h | h
    · rw [List.contains_iff_mem.2 hl] at h; cases h
    · obtain ⟨q, hq, hb, he⟩ := h
      exact ⟨o.after[q], Array.getElem_mem hq, hb, he⟩
  · intro s j o x d hk ho hj hx hd
    have h := h7 s (inr s o ho)
    rw [hk, ho] at h
    simp only [beq_self_eq_true, Bool.not_true, Bool.false_or, Bool.and_eq_true, List.all_eq_true, List.mem_range] at h
    have := h.2 j (inr j x hx)
    rw [hj, hx] at this
    simp only [beq_self_eq_true, Bool.not_true, Bool.false_or, Bool.and_eq_true, hd] at this
    obtain ⟨-, h8, h9⟩ := this
    exact ⟨(fun hm => by rw [List.contains_iff_mem.2 hm] at h8; cases h8), by simpa using h9⟩

section
variable {P : Program} {L : List Oper} {κ : List Nat} {k : Nat} {C : World → Prop} {Q : Exit → Act → World → Prop} {af : Act}

abbrev kblk (κ : List Nat) : List Bool := κ.map (· != 0)

theorem sideOps_at (hD : Side L κ k) (i : Nat) : (diesOps L (kblk κ))[i]? = (L[i]?).map fun x => if κ[i]? = some 0 then x else idle x := by
  unfold diesOps
  rw [List.getElem?_zipWith]
  cases hx : L[i]? with
  | none => simp
  | some x =>
    have hi : i < L.length := (List.getElem?_eq_some_iff.1 hx).1
    have : κ[i]? = some (κ[i]'(by rw [hD.len]; exact hi)) := List.getElem?_eq_getElem _
    rw [List.getElem?_map, this]
    by_cases e : κ[i]'(by rw [hD.len]; exact hi) = 0 <;> simp [e]

theorem sideOps_len (hD : Side L κ k) : (diesOps L (kblk κ)).length = L.length := by
  unfold diesOps
  simp [hD.len]

theorem ready_side (hD : Side L κ k) (listed : Array Bool) : Region.ready .any (diesOps L (kblk κ)).toArray listed = Region.ready .any L.toArray listed := by
  unfold Region.ready
  simp only [List.size_toArray, sideOps_len hD, List.getElem?_toArray]
  apply List.filter_congr
  intro i _
  rw [sideOps_at hD i]
  cases L[i]? with
  | none => rfl
  | some x =>
    simp only [Option.map_some]
    split <;> rfl

/-- Slots that o looks at, and how many there are, stay through the plain operations that are left. -/
theorem side_agree (hD : Side L κ k) {s : Nat} {o : Oper} (hs1 : κ[s]? = some 1) (hso : L[s]? = some o) : ∀ (fuel : Nat) (listed : Array Bool) (a : Act), listed.size = L.length →
    (∀ e ∈ o.after, Region.binds .any e = true → listed[e.on]? = some true) → wpAnyQ P .any (diesOps L (kblk κ)).toArray C (fun a' => a' = af) fuel listed a →
    (∀ x ∈ o.op.operands, af.eval x = a.eval x) ∧ af.tmps.size = a.tmps.size
  | 0, _, a, _, _, h => by rw [h.2]; exact ⟨fun _ _ => rfl, rfl⟩
  | fuel + 1, listed, a, hs, hp, h => by
    unfold wpAnyQ at h
    cases hr : Region.ready .any (diesOps L (kblk κ)).toArray listed with
    | nil => rw [← h.1 hr]; exact ⟨fun _ _ => rfl, rfl⟩
    | cons i r =>
      have hi : i ∈ Region.ready .any (diesOps L (kblk κ)).toArray listed := by rw [hr]; simp
      have hq := h.2 i hi
      rw [ready_side hD] at hi
      obtain ⟨hl, x, hx, -⟩ := (mem_ready' hs).1 hi
      have hil : i < L.length := (List.getElem?_eq_some_iff.1 hx).1
      have key : ∀ a1 : Act, (∀ x ∈ o.op.operands, a1.eval x = a.eval x) → a1.tmps.size = a.tmps.size → wpAnyQ P .any (diesOps L (kblk κ)).toArray C (fun a' => a' = af) fuel (listed.setIfInBounds i true) a1 →
          (∀ x ∈ o.op.operands, af.eval x = a.eval x) ∧ af.tmps.size = a.tmps.size := fun a1 e1 e2 hK => by
        obtain ⟨q1, q2⟩ := side_agree hD hs1 hso fuel _ a1 (by rw [Array.size_setIfInBounds]; exact hs) (fun e he hb => by
          rw [Array.getElem?_setIfInBounds]
          by_cases e2 : i = e.on
          · rw [if_pos e2, if_pos (by omega)]
          · rw [if_neg e2]; exact hp e he hb) hK
        exact ⟨fun x hx => (q1 x hx).trans (e1 x hx), q2.trans e2⟩
      have hput : ∀ (y : Oper) (v : Value), (diesOps L (kblk κ))[i]? = some y → ∀ x ∈ o.op.operands, (a.put y.dst v).eval x = a.eval x := fun y v hy z hz => by
        refine Act.eval_put fun d hd hzd => ?_
        rw [sideOps_at hD i, hx] at hy
        simp only [Option.map_some, Option.some.injEq] at hy
        by_cases hb : κ[i]? = some 0
        · rw [if_pos hb] at hy
          subst hy
          obtain ⟨e, he, hbd, hon⟩ := hD.look s i o x d hs1 hso hb hx hd (List.mem_append_left _ (List.mem_filterMap.2 ⟨.tmp d, by subst hzd; simpa using hz, rfl⟩))
          have := hp e he hbd
          rw [hon, hl] at this
          cases this
        · rw [if_neg hb] at hy
          rw [← hy] at hd
          cases hd
      have hsz : ∀ (d : Option Tmp) (v : Value), (a.put d v).tmps.size = a.tmps.size := fun d v => by
        cases d with
        | none => rfl
        | some d => simp [Act.put]
      unfold qOp at hq
      rw [List.getElem?_toArray] at hq
      cases hy : (diesOps L (kblk κ))[i]? with
      | none =>
        rw [hy] at hq
        exact key a (fun _ _ => rfl) rfl hq
      | some y =>
        rw [hy] at hq
        dsimp only at hq
        split at hq
        · obtain ⟨v, -, hK⟩ := hq
          exact key _ (hput y v hy) (hsz _ _) hK
        · exact key _ (hput y _ hy) (hsz _ _) hq

theorem wanted_side (hD : Side L κ k) {i : Nat} {x : Oper} (hx : L[i]? = some x) (hb : κ[i]? = some 0) (tmps : Array Value) :
    Region.wanted x (yielded (diesOps L (kblk κ)).toArray tmps) = Region.wanted x (yielded L.toArray tmps) := by
  unfold Region.wanted
  cases hg : x.guard with
  | none => rfl
  | some y =>
    obtain ⟨g, b⟩ := y
    have hgb := hD.grd i x g b hb hx hg
    have : yielded (diesOps L (kblk κ)).toArray tmps g = yielded L.toArray tmps g := by
      unfold yielded
      rw [List.getElem?_toArray, List.getElem?_toArray, sideOps_at hD g, hgb]
      cases L[g]? <;> simp
    simp only [this]

theorem applyP_snoc (ps : List (Option Tmp × Value)) (d : Option Tmp) (v : Value) (a : Act) : applyP (ps ++ [(d, v)]) a = (applyP ps a).put d v := by
  unfold applyP
  rw [List.foldl_append]
  rfl

theorem applyP_put : ∀ (ps : List (Option Tmp × Value)) (a : Act) (d : Option Tmp) (v : Value), (∀ p ∈ ps, ∀ x, p.1 = some x → d ≠ some x) → (applyP ps a).put d v = applyP ps (a.put d v)
  | [], _, _, _, _ => rfl
  | p :: ps, a, d, v, h => by
    show (applyP ps (a.put p.1 p.2)).put d v = applyP ps ((a.put d v).put p.1 p.2)
    rw [applyP_put ps _ d v (fun q hq => h q (List.mem_cons_of_mem _ hq)), Act.put_comm a p.2 v (fun x hx => h p List.mem_cons_self x hx)]

theorem applyP_exec {ops : Array Oper} (o : Oper) (hs : ∀ cs b, o.op ≠ .select cs b) : ∀ (ps : List (Option Tmp × Value)) (a : Act), (∀ p ∈ ps, ∀ x, p.1 = some x → x ∉ o.looksAt ops) → execOp (applyP ps a).eval o = execOp a.eval o
  | [], _, _ => rfl
  | p :: ps, a, h => by
    show execOp (applyP ps (a.put p.1 p.2)).eval o = _
    rw [applyP_exec o hs ps _ (fun q hq => h q (List.mem_cons_of_mem _ hq)), execOp_put (ops := ops) o hs a p.1 p.2 (fun d hd => h p List.mem_cons_self d hd)]

theorem applyP_wanted {ops : Array Oper} (o : Oper) : ∀ (ps : List (Option Tmp × Value)) (a : Act), (∀ p ∈ ps, ∀ x, p.1 = some x → x ∉ o.looksAt ops) → Region.wanted o (yielded ops (applyP ps a).tmps) = Region.wanted o (yielded ops a.tmps)
  | [], _, _ => rfl
  | p :: ps, a, h => by
    show Region.wanted o (yielded ops (applyP ps (a.put p.1 p.2)).tmps) = _
    rw [applyP_wanted o ps _ (fun q hq => h q (List.mem_cons_of_mem _ hq)), wanted_put (ops := ops) o a p.1 p.2 (fun d hd => h p List.mem_cons_self d hd)]

theorem put_eval_same {a b : Act} {d : Option Tmp} {v : Value} {x : Operand} (hs : a.tmps.size = b.tmps.size) (h : a.eval x = b.eval x) : (a.put d v).eval x = (b.put d v).eval x := by
  cases d with
  | none => exact h
  | some d =>
    cases x with
    | tmp t =>
      simp only [Act.eval, Act.put] at h ⊢
      by_cases e : d = t
      · subst e
        simp only [Array.getD_eq_getD_getElem?, Array.getElem?_setIfInBounds, hs]
        by_cases hl : d < b.tmps.size
        · simp [hl]
        · simp [hl]
      · simp only [Array.getD_eq_getD_getElem?, Array.getElem?_setIfInBounds_ne e]
        simpa [Array.getD_eq_getD_getElem?] using h
    | _ => exact h

theorem applyP_eval : ∀ (ps : List (Option Tmp × Value)) (a b : Act) (x : Operand), a.tmps.size = b.tmps.size → a.eval x = b.eval x → (applyP ps a).eval x = (applyP ps b).eval x
  | [], _, _, _, _, h => h
  | (none, v) :: ps, a, b, x, hs, h => applyP_eval ps a b x hs h
  | (some d, v) :: ps, a, b, x, hs, h => applyP_eval ps (a.put (some d) v) (b.put (some d) v) x (by simpa [Act.put] using hs) (put_eval_same hs h)

/-- Through the idle ones behind operation k. -/
theorem idle_side (hD : Side L κ k) : ∀ (fuel i : Nat) (listed : Array Bool) (a : Act), Upto L listed i → k ≤ i → i ≤ L.length → wpAnyQ P .any (diesOps L (kblk κ)).toArray C (fun a' => a' = af) fuel listed a → a = af ∧ L.length - i ≤ fuel
  | 0, i, listed, a, hU, hk, hi, h => by
    unfold wpAnyQ at h
    rw [ready_side hD] at h
    by_cases hlt : i < L.length
    · have := hU.ready hD.forced hlt
      rw [h.1] at this
      cases this
    · exact ⟨h.2, by omega⟩
  | fuel + 1, i, listed, a, hU, hk, hi, h => by
    unfold wpAnyQ at h
    rw [ready_side hD] at h
    by_cases hlt : i < L.length
    · have hq := h.2 i (hU.ready hD.forced hlt)
      unfold qOp at hq
      rw [List.getElem?_toArray, sideOps_at hD, List.getElem?_eq_getElem hlt] at hq
      simp only [Option.map_some] at hq
      have hne : ¬ κ[i]? = some 0 := by rw [hD.hi i hk hlt]; simp
      simp only [hne, if_false] at hq
      rw [if_pos (by simp [Region.wanted, idle])] at hq
      obtain ⟨v, -, hK⟩ := hq
      have := idle_side hD fuel (i + 1) _ a hU.next (by omega) (by omega) hK
      exact ⟨this.1, by omega⟩
    · obtain rfl : i = L.length := by omega
      exact ⟨h.1 hU.none, by omega⟩

theorem chain_edge {done : List Nat} {s : Nat} {rest : List Nat} : ∀ (l : List Nat), chainB L l = true → l = done ++ s :: rest → ∀ i ∈ rest, ∃ u o, u ∈ s :: rest ∧ L[i]? = some o ∧ ∃ e ∈ o.after, Region.binds .any e = true ∧ e.on = u := by
  intro l hl e
  subst e
  induction done with
  | nil =>
    revert s
    induction rest with
    | nil => intro s _ i hi; cases hi
    | cons t rest ih =>
      intro s hl i hi
      simp only [List.nil_append] at hl ih
      unfold chainB at hl
      rw [Bool.and_eq_true] at hl
      rcases List.mem_cons.1 hi with rfl | hi
      · cases ho : L[i]? with
        | none => rw [ho] at hl; simp at hl
        | some o =>
          rw [ho] at hl
          have h1 := hl.1
          simp only [Array.any_eq_true, Bool.and_eq_true, beq_iff_eq] at h1
          obtain ⟨q, hq, hb, he⟩ := h1
          exact ⟨s, o, by simp, rfl, o.after[q], Array.getElem_mem hq, hb, he⟩
      · obtain ⟨u, o, hu, ho, he⟩ := ih hl.2 i hi
        exact ⟨u, o, List.mem_cons_of_mem _ hu, ho, he⟩
  | cons d done ih =>
    apply ih
    cases done with
    | nil =>
      simp only [List.cons_append, List.nil_append] at hl
      unfold chainB at hl
      rw [Bool.and_eq_true] at hl
      exact hl.2
    | cons d2 done =>
      simp only [List.cons_append] at hl
      unfold chainB at hl
      rw [Bool.and_eq_true] at hl
      exact hl.2

theorem side_any (hD : Side L κ k) : ∀ (fuel : Nat) (listed : Array Bool) (a : Act) (ps : List (Option Tmp × Value)) (done rest : List Nat) (U : World), C U → listed.size = L.length →
      (∀ (s : Nat) (o : Oper), L[s]? = some o → listed[s]? = some true → ∀ e ∈ o.after, Region.binds .any e = true → listed[e.on]? = some true) →
      (∀ i, k ≤ i → i < L.length → listed[i]? = some false) → sideIdx κ k = done ++ rest → (∀ i ∈ done, listed[i]? = some true) → (∀ i ∈ rest, listed[i]? = some false) →
      (∀ p ∈ ps, ∀ d, p.1 = some d → ∃ (s : Nat) (o : Oper), κ[s]? = some 1 ∧ L[s]? = some o ∧ o.dst = some d) →
      sideWp P C af (fun ps U => wpList P L.toArray Q (L.drop k) (applyP ps af) U) (rest.filterMap fun i => L[i]?) ps U →
      wpAnyQ P .any (diesOps L (kblk κ)).toArray C (fun a' => a' = af) fuel listed a → wpAny P .any L.toArray Q fuel listed (applyP ps a) U
  | 0, listed, a, ps, done, rest, U, hU, hs, hc, hp, hsd, hd, hr, hps, hS, h => by
    unfold wpAnyQ at h
    rw [ready_side hD] at h
    obtain ⟨i, hi⟩ := ready_some hD.forced hs k (hp k (Nat.le_refl _) hD.forced.lt)
    rw [h.1] at hi
    cases hi
  | fuel + 1, listed, a, ps, done, rest, U, hU, hs, hc, hp, hsd, hd, hr, hps, hS, h => by
    have h' := h
    unfold wpAnyQ at h
    rw [ready_side hD] at h
    refine ⟨fun h0 => ?_, fun i hi => ?_⟩
    · obtain ⟨i, hi⟩ := ready_some hD.forced hs k (hp k (Nat.le_refl _) hD.forced.lt)
      rw [h0] at hi
      cases hi
    obtain ⟨hl, x, hx, haf⟩ := (mem_ready' hs).1 hi
    have hil : i < L.length := (List.getElem?_eq_some_iff.1 hx).1
    have hcs : ∀ (s : Nat) (o : Oper), L[s]? = some o → (listed.setIfInBounds i true)[s]? = some true → ∀ e ∈ o.after, Region.binds .any e = true → (listed.setIfInBounds i true)[e.on]? = some true := by
      intro s o ho hl2 e he hb
      rw [Array.getElem?_setIfInBounds] at hl2 ⊢
      by_cases e2 : i = e.on
      · rw [if_pos e2, if_pos (by omega)]
      · rw [if_neg e2]
        by_cases e1 : i = s
        · subst e1
          rw [hx] at ho
          cases ho
          exact haf e he hb
        · rw [if_neg e1] at hl2
          exact hc s o ho hl2 e he hb
    have hset : ∀ j, j ≠ i → (listed.setIfInBounds i true)[j]? = listed[j]? := fun j hj => by rw [Array.getElem?_setIfInBounds, if_neg (fun e => hj e.symm)]
    by_cases hik : i < k
    · rcases hD.lo i hik with hκ | hκ
      · -- a plain operation
        have hq := h.2 i hi
        have hmem : ∀ j, κ[j]? = some 1 → j ≠ i := fun j hj e => by rw [e, hκ] at hj; cases hj
        have hdr : ∀ j ∈ done ++ rest, κ[j]? = some 1 := fun j hj => by
          rw [← hsd] at hj
          unfold sideIdx at hj
          simp only [List.mem_filter, beq_iff_eq] at hj
          exact hj.2
        have hap : ∀ p ∈ ps, ∀ d, p.1 = some d → d ∉ x.looksAt L.toArray ∧ x.dst ≠ some d := fun p hp' d hpd => by
          obtain ⟨s, o, q1, q2, q3⟩ := hps p hp' d hpd
          exact hD.apart s i o x d q1 q2 hκ hx q3
        have go : ∀ v, wpAnyQ P .any (diesOps L (kblk κ)).toArray C (fun a' => a' = af) fuel (listed.setIfInBounds i true) (a.put x.dst v) →
            wpAny P .any L.toArray Q fuel (listed.setIfInBounds i true) ((applyP ps a).put x.dst v) U := fun v hK => by
          rw [applyP_put ps a x.dst v (fun p hp' d hpd => (hap p hp' d hpd).2)]
          exact side_any hD fuel _ _ ps done rest U hU (by rw [Array.size_setIfInBounds]; exact hs) hcs (fun j hj hjl => by rw [hset j (by omega)]; exact hp j hj hjl) hsd
            (fun j hj => by rw [hset j (hmem j (hdr j (List.mem_append_left _ hj)))]; exact hd j hj) (fun j hj => by rw [hset j (hmem j (hdr j (List.mem_append_right _ hj)))]; exact hr j hj) hps hS hK
        unfold qOp at hq
        rw [List.getElem?_toArray, sideOps_at hD, hx] at hq
        simp only [Option.map_some, hκ, if_true] at hq
        unfold wpOp
        rw [List.getElem?_toArray, hx]
        dsimp only
        rw [applyP_wanted (ops := L.toArray) x ps a (fun p hp' d hpd => (hap p hp' d hpd).1)]
        rw [wanted_side hD hx hκ] at hq
        split
        · rename_i hw
          rw [if_pos hw] at hq
          obtain ⟨v, hv, hK⟩ := hq
          left
          have hv := hv U hU
          have hsel : ∀ cs b, x.op ≠ .select cs b := fun cs b e => by
            have := hD.plain i x hκ hx
            rw [e] at this
            cases this
          unfold Oper.wp
          rw [applyP_exec (ops := L.toArray) x hsel ps a (fun p hp' d hpd => (hap p hp' d hpd).1)]
          unfold Oper.quietAt at hv
          have hne := fun w' f args => plain_enter (P := P) (ρ := a.eval) (hD.plain i x hκ hx) (w := U) (w' := w') (f := f) (args := args)
          generalize (execOp a.eval x).run P U = r at hv hne ⊢
          cases r with
          | ok n w' =>
            cases n <;> simp only [Oper.quietUpon] at hv <;> simp only [Oper.upon]
            case value u =>
              obtain ⟨rfl, rfl⟩ := hv
              exact go _ hK
            case skip =>
              obtain ⟨rfl, rfl⟩ := hv
              exact go _ hK
            case enter f args => exact absurd rfl (hne _ _ _)
          | halt _ _ => simp only [Oper.quietUpon] at hv
        · rename_i hw
          rw [if_neg hw] at hq
          exact go _ hq
      · -- one of the chain
        have him : i ∈ done ++ rest := by
          rw [← hsd]
          unfold sideIdx
          simp only [List.mem_filter, List.mem_range, beq_iff_eq]
          exact ⟨hik, hκ⟩
        have hir : i ∈ rest := by
          rcases List.mem_append.1 him with h | h
          · rw [hd i h] at hl; cases hl
          · exact h
        cases rest with
        | nil => cases hir
        | cons s rest =>
          obtain rfl : i = s := by
            rcases List.mem_cons.1 hir with e | e
            · exact e
            · exfalso
              obtain ⟨u, o, hu, ho, e', he, hb, hon⟩ := chain_edge _ hD.chain hsd i e
              rw [hx] at ho
              cases ho
              have h1 := haf e' he hb
              rw [hon, hr u hu] at h1
              cases h1
          have hnd : (done ++ i :: rest).Nodup := by
            rw [← hsd]
            exact List.Nodup.sublist List.filter_sublist List.nodup_range
          have hni : i ∉ rest ∧ i ∉ done := by
            rw [List.nodup_append] at hnd
            exact ⟨(List.nodup_cons.1 hnd.2.1).1, fun hm => hnd.2.2 i hm i List.mem_cons_self rfl⟩
          have hq := h.2 i hi
          unfold qOp at hq
          rw [List.getElem?_toArray, sideOps_at hD, hx] at hq
          simp only [Option.map_some] at hq
          have hne : ¬ κ[i]? = some 0 := by rw [hκ]; simp
          simp only [hne, if_false] at hq
          rw [if_pos (by simp [Region.wanted, idle])] at hq
          obtain ⟨v0, -, hK⟩ := hq
          have hK : wpAnyQ P .any (diesOps L (kblk κ)).toArray C (fun a' => a' = af) fuel (listed.setIfInBounds i true) a := hK
          obtain ⟨ag, asz⟩ := side_agree hD hκ hx (fuel + 1) listed a hs haf h'
          simp only [List.filterMap_cons, hx] at hS
          have hexe : execOp (applyP ps af).eval x = execOp (applyP ps a).eval x := execOp_congr x (hD.sel i x hκ hx) (fun y hy => applyP_eval ps af a y asz (ag y hy))
          unfold sideWp Oper.wpV at hS
          rw [hexe] at hS
          have go : ∀ v U', C U' ∧ sideWp P C af (fun ps U => wpList P L.toArray Q (L.drop k) (applyP ps af) U) (rest.filterMap fun i => L[i]?) (ps ++ [(x.dst, v)]) U' →
              wpAny P .any L.toArray Q fuel (listed.setIfInBounds i true) ((applyP ps a).put x.dst v) U' := fun v U' hv => by
            rw [← applyP_snoc]
            exact side_any hD fuel _ _ _ (done ++ [i]) rest U' hv.1 (by rw [Array.size_setIfInBounds]; exact hs) hcs (fun j hj hjl => by rw [hset j (by omega)]; exact hp j hj hjl) (by rw [hsd]; simp)
              (fun j hj => by
                rcases List.mem_append.1 hj with hj | hj
                · rw [hset j (fun e => hni.2 (e ▸ hj))]; exact hd j hj
                · obtain rfl : j = i := by simpa using hj
                  rw [Array.getElem?_setIfInBounds, if_pos rfl, if_pos (by omega)])
              (fun j hj => by rw [hset j (fun e => hni.1 (e ▸ hj))]; exact hr j (List.mem_cons_of_mem _ hj))
              (fun p hp' d hpd => by
                rcases List.mem_append.1 hp' with hp' | hp'
                · exact hps p hp' d hpd
                · obtain rfl : p = (x.dst, v) := by simpa using hp'
                  exact ⟨i, x, hκ, hx, hpd⟩) hv.2 hK
          unfold wpOp
          rw [List.getElem?_toArray, hx]
          dsimp only
          rw [if_pos (by simp [Region.wanted, hD.sgrd i x hκ hx])]
          left
          unfold Oper.wp
          generalize (execOp (applyP ps a).eval x).run P U = r at hS ⊢
          cases r with
          | ok n w' =>
            cases n <;> simp only [Oper.upon] at hS ⊢
            case value u => exact go _ _ hS
            case skip => exact go _ _ hS
            case enter f args =>
              exact hS.mono fun e w'' ⟨v, he, hv⟩ => by subst he; exact go _ _ hv
          | halt _ _ => exact hS.elim
    · -- the first of the last ones
      have hall : ∀ d j, j + d + 1 = i → listed[j]? = some true := by
        intro d
        induction d using Nat.strongRecOn with
        | ind d ih =>
          intro j hj
          obtain ⟨s, o, h1, h2, h3, e', he, hb, hon⟩ := hD.forced.next j (by omega)
          by_cases e : s = i
          · subst e
            rw [h3] at hx
            cases hx
            have := haf e' he hb
            rwa [hon] at this
          · have hls := ih (i - s - 1) (by omega) s (by omega)
            have := hc s o h3 hls e' he hb
            rwa [hon] at this
      obtain rfl : i = k := by
        by_cases e : i = k
        · exact e
        · exfalso
          have h1 := hall (i - k - 1) k (by omega)
          rw [hp k (Nat.le_refl _) hD.forced.lt] at h1
          cases h1
      have hUp : Upto L listed i := ⟨hs, fun j hj => by
        by_cases hlt : j < i
        · rw [hall (i - j - 1) j (by omega)]; simp [hlt]
        · rw [hp j (by omega) hj]; simp [hlt]⟩
      obtain ⟨rfl, hf⟩ := idle_side hD (fuel + 1) i listed a hUp (Nat.le_refl _) (by omega) h'
      have hrn : rest = [] := by
        cases rest with
        | nil => rfl
        | cons s rest =>
          exfalso
          have hm : s ∈ sideIdx κ i := by rw [hsd]; simp
          unfold sideIdx at hm
          simp only [List.mem_filter, List.mem_range] at hm
          have h1 := hr s List.mem_cons_self
          rw [hall (i - s - 1) s (by omega)] at h1
          cases h1
      subst hrn
      exact (tail_any hD.forced (fuel + 1) i listed (applyP ps a) U hUp (Nat.le_refl _) (by omega) hf hS).2 i hi

theorem quiet_end {ops : Array Oper} {Q1 : Act → Prop} : ∀ (l : List Oper) (a : Act), wpQuiet P ops C Q1 l a → ∃ af, Q1 af ∧ wpQuiet P ops C (fun a' => a' = af) l a
  | [], a, h => ⟨a, h, rfl⟩
  | o :: l, a, h => by
    unfold wpQuiet at h
    split at h
    · rename_i hw
      obtain ⟨v, h1, h2⟩ := h
      obtain ⟨af, h3, h4⟩ := quiet_end l _ h2
      refine ⟨af, h3, ?_⟩
      unfold wpQuiet
      rw [if_pos hw]
      exact ⟨v, h1, h4⟩
    · rename_i hw
      obtain ⟨af, h3, h4⟩ := quiet_end l _ h
      refine ⟨af, h3, ?_⟩
      unfold wpQuiet
      rw [if_neg hw]
      exact h4

/-- The plain operations once, in the text's order; then the chain; then the last ones as they stand. -/
theorem wp_region_side (κ : List Nat) (k : Nat) {id : Nat} {a : Act} {w : World} (hm : P.follows .mixedOrders = true) (hB : sideB L κ k = true) (hC : C w.drew)
    (h : wpQuiet P (diesOps L (kblk κ)).toArray C (fun a' => sideWp P C a' (fun ps U => wpList P L.toArray Q (L.drop k) (applyP ps a') U) ((sideIdx κ k).filterMap fun i => L[i]?) [] w.drew) (diesOps L (kblk κ)) a) : (Code.region id L.toArray true).wp P Q a w := by
  have hD := Side.of hB
  refine wp_region_any hm ?_
  have hlx := hD.lex
  simp only [Region.lexB, Bool.and_eq_true] at hlx
  obtain ⟨af, h1, h2⟩ := quiet_end _ _ h
  have hl := wpAnyQ_lex (C := C) (md := .any) hlx.1 (diesOps L (kblk κ)) 0 (Array.replicate (diesOps L (kblk κ)).length false) a (by simp) (by simpa using hlx.2) h2
  have := side_any (Q := Q) hD _ (Array.replicate (diesOps L (kblk κ)).length false) a [] [] (sideIdx κ k) w.drew hC (by simp [sideOps_len hD]) ?_ ?_ rfl (fun i hi => by cases hi) ?_ (fun p hp => by cases hp) h1 hl
  · rw [sideOps_len hD] at this
    rw [show applyP [] a = a from rfl] at this
    simpa using this
  · intro s o ho hl e he hb
    rw [Array.getElem?_replicate] at hl
    split at hl <;> simp at hl
  · intro i hi hil
    simp [sideOps_len hD, hil]
  · intro i hi
    unfold sideIdx at hi
    simp only [List.mem_filter, List.mem_range] at hi
    have := hD.forced.lt
    have h2 : i < L.length := by omega
    simp [sideOps_len hD, h2]
end

/-- .. at the later worlds of w0. -/
theorem wp_region_side_later (κ : List Nat) (k : Nat) {P : Program} (w0 : World) {id : Nat} {Q : Exit → Act → World → Prop} {a : Act} {w : World} {L : List Oper} (hm : P.follows .mixedOrders = true) (hB : sideB L κ k = true) (hC : Below w0.heap.size w0 w.drew)
    (h : wpQuiet P (diesOps L (kblk κ)).toArray (fun U => ∃ s : Later w0, U = s.val) (fun a' => sideWp P (fun U => Below w0.heap.size w0 U) a' (fun ps U => wpList P L.toArray Q (L.drop k) (applyP ps a') U) ((sideIdx κ k).filterMap fun i => L[i]?) [] w.drew) (diesOps L (kblk κ)) a) : (Code.region id L.toArray true).wp P Q a w := by
  refine wp_region_side (C := fun U => ∃ s : Later w0, U = s.val) κ k hm hB (Later.iff.2 hC) ?_
  have e : (fun U => ∃ s : Later w0, U = s.val) = (fun U => Below w0.heap.size w0 U) := funext fun U => propext Later.iff
  rw [e] at h ⊢
  exact h
end Go.Proofs.Ytbkaopeajjechaa
