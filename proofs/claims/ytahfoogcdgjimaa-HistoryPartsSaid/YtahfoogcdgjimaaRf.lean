/- A loop over an iterator that stores into one block that was there before the loop. No program in sight. -/
import Derived.RangeFuncNested
import Derived.RangeFuncBound
import Derived.RangeFuncCalls
import Derived.RangeFuncLeaves
import Derived.RangeFuncWrites
namespace Go.Proofs.Ytahfoogcdgjimaa
set_option linter.unusedVariables false
set_option linter.unusedSimpArgs false
open Go.RowKit

variable {F : Fence} {n : Nat} {P : Program}

/-- It stays where new blocks come, where block h turns, and where a block turns that is no cells and lies at or beyond B. -/
def StaysX {β : Type} (B h : Nat) (I : β → World → Prop) : Prop :=
  ∀ s W W' row, I s W → W.grownBy W' row → (∀ r, row = some r → r = h ∨ (B ≤ r ∧ ∃ o : Obj, W.heap[r]? = some o ∧ o.isCells = false)) → I s W'

theorem StaysX.and {β : Type} {B h : Nat} {I K : β → World → Prop} (a : StaysX B h I) (b : StaysX B h K) : StaysX B h (fun s W => I s W ∧ K s W) :=
  fun s W W' row hs hg hr => ⟨a s W W' row hs.1 hg hr, b s W W' row hs.2 hg hr⟩
theorem StaysX.put {β : Type} {B h : Nat} {I : β → World → Prop} (a : StaysX B h I) {s : β} {W : World} {l : Nat} {o : Obj} (o' : Obj) (hs : I s W) (hB : B ≤ l) (hl : W.heap[l]? = some o) (ho : o.isCells = false) : I s (W.putObj l o') :=
  a s W _ (some l) hs (grownBy_putObj' W l o') (fun r e => by cases e; exact .inr ⟨hB, o, hl, ho⟩)
theorem StaysX.new {β : Type} {B h : Nat} {I : β → World → Prop} (a : StaysX B h I) {s : β} {W : World} (o : Obj) (hs : I s W) : I s (W.alloc o) :=
  a s W _ none hs (World.grownBy_alloc W o none) (fun r e => by cases e)
theorem staysX_below {β : Type} {n₀ B h : Nat} {w₀ : World} (hn : n₀ ≤ w₀.heap.size) (hB : n₀ ≤ B) (hh : n₀ ≤ h) : StaysX B h (fun (_ : β) W => Below n₀ w₀ W) :=
  fun _ _ _ _ hs hg hr => hs.grown hg (Nat.le_trans hn hs.size) (fun k e => by rcases hr k e with rfl | ⟨h1, _⟩ <;> omega)

/-- Every block below n but one is as it was. -/
def KeptBut (n x : Nat) (P Q : World) : Prop := P.heap.size ≤ Q.heap.size ∧ ∀ i, i < n → i ≠ x → Q.heap[i]? = P.heap[i]?
theorem KeptBut.refl (n x : Nat) (A : World) : KeptBut n x A A := ⟨Nat.le_refl _, fun _ _ _ => rfl⟩
theorem KeptBut.trans {n x : Nat} {A B C : World} (h : KeptBut n x A B) (k : KeptBut n x B C) : KeptBut n x A C :=
  ⟨Nat.le_trans h.1 k.1, fun i hi hx => (k.2 i hi hx).trans (h.2 i hi hx)⟩
theorem KeptBut.below {n m x : Nat} {A B : World} (h : Below m A B) (hn : n ≤ m) : KeptBut n x A B := ⟨h.size, fun i hi _ => h.block i (Nat.lt_of_lt_of_le hi hn)⟩
theorem KeptBut.grown {n x : Nat} {A B : World} (h : A.grownBy B (some x)) (hn : n ≤ A.heap.size) : KeptBut n x A B := ⟨h.size, fun i hi hx => h.block i (Nat.lt_of_lt_of_le hi hn) (by simpa using hx)⟩
theorem KeptBut.cell {n x b o : Nat} {A B : World} {v : Option Value} (h : KeptBut n x A B) (hb : b < n) (hx : b ≠ x) (hc : A.cell? ⟨b, o, none⟩ = v) : B.cell? ⟨b, o, none⟩ = v := (World.cell?_of_block (a := ⟨b, o, none⟩) (h.2 b hb hx)).trans hc

theorem KeptBut.frozen {n x b o : Nat} {A B : World} (h : KeptBut n x A B) (hb : b < n) (hx : b ≠ x) : B.frozen? ⟨b, o, none⟩ = A.frozen? ⟨b, o, none⟩ := by
  unfold World.frozen?
  rw [h.2 b hb hx]

theorem cell_stays {A B : World} {row : Option Nat} {b o B₀ h : Nat} {v : Value} (hc : A.cell? ⟨b, o, none⟩ = some v) (hg : A.grownBy B row) (hr : ∀ r, row = some r → r = h ∨ (B₀ ≤ r ∧ ∃ o : Obj, A.heap[r]? = some o ∧ o.isCells = false)) (hb : b ≠ h) : B.cell? ⟨b, o, none⟩ = some v := by
  by_cases e : row = some b
  · rcases hr b e with e' | ⟨_, ob, h1, h2⟩
    · exact absurd e' hb
    · exfalso
      obtain ⟨ob2, h3, h4⟩ := cells_of_cell hc
      rw [h1] at h3
      cases h3
      rw [h2] at h4
      cases h4
  · obtain ⟨ob2, h3, _⟩ := cells_of_cell hc
    exact (World.cell?_of_block (a := ⟨b, o, none⟩) (hg.block b (Array.getElem?_eq_some_iff.1 h3).1 (fun x => e x.symm))).trans hc

theorem frozen_stays {A B : World} {row : Option Nat} {b o B₀ h : Nat} {v : Value} (hc : A.cell? ⟨b, o, none⟩ = some v) (hg : A.grownBy B row) (hr : ∀ r, row = some r → r = h ∨ (B₀ ≤ r ∧ ∃ o : Obj, A.heap[r]? = some o ∧ o.isCells = false)) (hb : b ≠ h) : B.frozen? ⟨b, o, none⟩ = A.frozen? ⟨b, o, none⟩ := by
  have hbl : B.heap[b]? = A.heap[b]? := by
    by_cases e : row = some b
    · rcases hr b e with e' | ⟨_, ob, h1, h2⟩
      · exact absurd e' hb
      · exfalso
        obtain ⟨ob2, h3, h4⟩ := cells_of_cell hc
        rw [h1] at h3
        cases h3
        rw [h2] at h4
        cases h4
    · obtain ⟨ob2, h3, _⟩ := cells_of_cell hc
      exact hg.block b (Array.getElem?_eq_some_iff.1 h3).1 (fun x => e x.symm)
  unfold World.frozen?
  rw [hbl]

/-- The contract of an iterator that stores into block h. -/
def SeqX {α : Type} (F : Fence) (n : Nat) (P : Program) (g : Nat) (lb : Array Value) (encs : α → Array Value) (Kp : World → World → Prop) (S Sp : List α → Prop) (N h : Nat) (w : World) : Prop :=
  ∀ (l : Nat) (J Jx : List α → World → Prop) (W : World), Below w.heap.size w W →
    (∀ s A B row, J s A → A.grownBy B row → (∀ r, row = some r → r = h) → J s B) → (∀ s A B row, Jx s A → A.grownBy B row → (∀ r, row = some r → r = h) → Jx s B) →
    (∀ pre x W1, J pre W1 → pre.length < N → YieldAt F (n - 1) P l (encs x) W1 fun e W' =>
      (e = .returned (.bool true) ∧ J (pre ++ [x]) W' ∧ Kp W1 W') ∨ (e = .returned (.bool false) ∧ Jx (pre ++ [x]) W')) →
    J [] W →
    CallsIn F n P g (#[.func (.yield l) #[] #[]] ++ lb) W fun e W' => (∃ v, e = .returned v) ∧ ((∃ xs, S xs ∧ J xs W') ∨ (∃ pre, Sp pre ∧ Jx pre W'))

theorem kept_other {A B : World} {row : Option Nat} {k : Nat} {o : Obj} (hg : A.grownBy B row) (hk : A.heap[k]? = some o) (hne : ∀ r, row = some r → r ≠ k) : B.heap[k]? = some o :=
  (hg.block k (Array.getElem?_eq_some_iff.1 hk).1 (fun e => hne k e.symm rfl)).trans hk

/-- The loop over such an iterator. -/
theorem wpIn_rangeFunc_X {α : Type} {g : Operand} {ps : Array Tmp} {assign body : Code} {Q : Exit → Act → World → Prop} {a : Act} {w : World}
    (hro : F.round = none) (h1 : 1 ≤ n) {gf : Nat} {lb : Array Value} (hg : a.eval g = .func (.func gf) #[] lb) (hFg : F.fn gf) (eg : ∀ args w, (callFunc gf args).run P w = .ok (.enter gf args) w)
    {encs : α → Array Value} {Kp : World → World → Prop} {S Sp : List α → Prop} {N h : Nat} {w0 : World} (hseq : SeqX F (n - 1) P gf lb encs Kp S Sp N h w0) (hh : h < w.heap.size)
    (hKt : ∀ {A B C : World}, Kp A B → Kp B C → Kp A C) (hKb : ∀ (W : World) (l : Nat) (o o' : Obj), w.heap.size ≤ l → W.heap[l]? = some o → o.isCells = false → o.isWalk = false → Kp W (W.putObj l o')) (hb0 : Below w0.heap.size w0 w) (hps : ∀ x, (encs x).size = ps.size)
    (I : List α → World → Prop) (Ix : Code → List α → World → Prop) (hI : StaysX w.heap.size h I) (hIx : ∀ c, StaysX w.heap.size h (Ix c)) (h0 : I [] w) (a₁ : α → Act)
    (hassign : ∀ (l : Nat) (x : α) (W : World) (K : Act → World → Prop), K (a₁ x) W →
      assign.wpIn (F.inRound l) (n - 1 - 1) P (Exit.then K (fun _ _ _ => False)) { tmps := (ps.zip (encs x)).foldl (fun t (p, v) => t.setIfInBounds p v) a.tmps, defers := [] } W)
    (hbody : ∀ (l : Nat) (pre : List α) (x : α) (W : World), I pre W → pre.length < N → body.wpIn (F.inRound l) (n - 1 - 1) P (ownPostG w.heap.size Kp I Ix (pre ++ [x]) W) (a₁ x) W)
    (hdone : ∀ (D : Nat) (xs : List α) (W : World), w.heap.size ≤ D → S xs → I xs W → W.heap[D]? = some (.deferred (some [])) → Q .normal { a with defers := { target := .collected D, args := #[] } :: a.defers } W)
    (hstop : ∀ (D : Nat) (c : Code) (pre : List α) (W : World), w.heap.size ≤ D → Sp pre → Ix c pre W → W.heap[D]? = some (.deferred (some [])) → c.wpIn F n P Q { a with defers := { target := .collected D, args := #[] } :: a.defers } W) :
    (Code.rangeFunc g ps assign body).wpIn F n P Q a w := by
  refine wpIn_rangeFunc ?_
  intro fn hfn
  rw [hro]
  obtain ⟨rec, hrec⟩ : ∃ rec : LoopState → Option Code → Loop, rec = fun st pe => { state := st, pending := pe, fn, tmps := a.tmps, params := ps, assign, body, defers := w.heap.size } := ⟨_, rfl⟩
  obtain ⟨W1, hW1⟩ : ∃ W1, (w.alloc (.deferred (some []))).alloc (.loop (rec .ready none)) = W1 := ⟨_, rfl⟩
  have hK1 : W1.heap[w.heap.size]? = some (.deferred (some [])) := by
    rw [← hW1]
    exact (Below.heap_alloc _ _ _ (by simp)).trans (World.alloc_heap_new w _)
  have hL1 : W1.heap[w.heap.size + 1]? = some (.loop (rec .ready none)) := by
    have q := World.alloc_heap_new (w.alloc (.deferred (some []))) (.loop (rec .ready none))
    rw [← hW1]
    rwa [World.size_alloc] at q
  have hb1 : Below w0.heap.size w0 W1 := by
    have q : Below w.heap.size w W1 := by
      rw [← hW1]
      exact ((Below.refl _ w).alloc (Nat.le_refl _) _).alloc (by simp) _
    exact hb0.trans (q.mono hb0.size)
  have hI1 : I [] W1 := by
    rw [← hW1]
    exact hI.new _ (hI.new _ h0)
  refine ⟨w.heap.size + 1, [{ target := .collected w.heap.size, args := #[] }], W1, { target := .fn (.func gf) lb, args := #[.func (.yield (w.heap.size + 1)) #[] #[]] }, W1, gf,
    #[.func (.yield (w.heap.size + 1)) #[] #[]] ++ lb, W1, ?_, ?_, ?_, ?_, fun _ => h1, ?_⟩
  · rw [← hW1, hrec]
    exact run_enterLoop_outer _ _ _ _ _
  · simp only [resolve, hg]
    simp [go_sem]
  · intro f' hf'
    simp [Target.leads] at hf'
    subst hf'
    exact hFg
  · simp [invoke, go_sem, eg]
  · have far : ∀ {row : Option Nat} {k : Nat}, w.heap.size ≤ k → (∀ r, row = some r → r = h) → ∀ r, row = some r → r ≠ k := fun hk hr r e => by have := hr r e; omega
    refine (hseq (w.heap.size + 1)
      (fun pre W => I pre W ∧ W.heap[w.heap.size + 1]? = some (.loop (rec .ready none)) ∧ W.heap[w.heap.size]? = some (.deferred (some [])))
      (fun pre W => ∃ c, Ix c pre W ∧ W.heap[w.heap.size + 1]? = some (.loop (rec .done (some c))) ∧ W.heap[w.heap.size]? = some (.deferred (some [])))
      W1 hb1 ?_ ?_ ?_ ⟨hI1, hL1, hK1⟩).mono ?_
    · rintro s A B row ⟨q1, q2, q3⟩ hg' hr
      exact ⟨hI s A B row q1 hg' (fun r e => .inl (hr r e)), kept_other hg' q2 (far (by omega) hr), kept_other hg' q3 (far (Nat.le_refl _) hr)⟩
    · rintro s A B row ⟨c, q1, q2, q3⟩ hg' hr
      exact ⟨c, hIx c s A B row q1 hg' (fun r e => .inl (hr r e)), kept_other hg' q2 (far (by omega) hr), kept_other hg' q3 (far (Nat.le_refl _) hr)⟩
    · rintro pre x W ⟨hi, hl, hk⟩ hlen
      have hlt : w.heap.size + 1 < W.heap.size := (Array.getElem?_eq_some_iff.1 hl).1
      have hy := run_yield (P := P) (args := encs x) hl (by rw [hrec]; exact hps x)
      rw [hrec] at hy
      refine ⟨fn, _, assign, body, hy, roundIn_of_wpIn hfn (hassign _ x W _ ⟨_, run_beginRound hl (by rw [hrec]), ?_⟩)⟩
      obtain ⟨busy, hbusy⟩ : ∃ q, q = Obj.loop { rec .ready none with state := .busy } := ⟨_, rfl⟩
      have hl2 : (W.putObj (w.heap.size + 1) busy).heap[w.heap.size + 1]? = some busy := World.putObj_heap_same hlt
      have hk2 : (W.putObj (w.heap.size + 1) busy).heap[w.heap.size]? = some (.deferred (some [])) := (World.putObj_heap_other (by omega)).trans hk
      have hw2 : Kp W (W.putObj (w.heap.size + 1) busy) := hKb _ _ _ _ (by omega) hl rfl rfl
      have hi2 : I pre (W.putObj (w.heap.size + 1) busy) := hI.put _ hi (by omega) hl rfl
      have nc : busy.isCells = false := by rw [hbusy]; rfl
      have nw : busy.isWalk = false := by rw [hbusy]; rfl
      rw [← hbusy]
      refine wpIn_mono (hbody _ pre x _ hi2 hlen) ?_
      have fin : ∀ (jump : Option Code) (W3 : World), KeepsFrom w.heap.size (W.putObj (w.heap.size + 1) busy) W3 →
          (Instr.endRound (w.heap.size + 1) jump).run P W3 = .ok (.bool jump.isNone) (W3.putObj (w.heap.size + 1) (.loop (rec (if jump.isNone then .ready else .done) jump))) ∧
          W3.heap[w.heap.size + 1]? = some busy ∧
          (W3.putObj (w.heap.size + 1) (.loop (rec (if jump.isNone then .ready else .done) jump))).heap[w.heap.size + 1]? = some (.loop (rec (if jump.isNone then .ready else .done) jump)) ∧
          (W3.putObj (w.heap.size + 1) (.loop (rec (if jump.isNone then .ready else .done) jump))).heap[w.heap.size]? = some (.deferred (some [])) := by
        intro jump W3 hk3
        have hl3 := hk3.same _ _ (by omega) hl2 nc
        have hl3' := hl3
        rw [hbusy] at hl3'
        have hr := run_endRound (P := P) jump hl3'
        rw [hrec] at hr ⊢
        exact ⟨hr, hl3, World.putObj_heap_same (Array.getElem?_eq_some_iff.1 hl3).1, (World.putObj_heap_other (by omega)).trans (hk3.same _ _ (Nat.le_refl _) hk2 rfl)⟩
      intro e a3 W3 hp
      cases e with
      | panic ch => exact hp.elim
      | outgrown => exact hp.elim
      | normal =>
        obtain ⟨p1, p2, p3⟩ := hp
        obtain ⟨r1, r2, r3, r4⟩ := fin none W3 p1
        exact ⟨_, _, r1, .inl ⟨rfl, ⟨hI.put _ p3 (by omega) r2 nc, r3, r4⟩, hKt (hKt hw2 p2) (hKb _ _ _ _ (by omega) r2 nc nw)⟩⟩
      | ret =>
        obtain ⟨p1, p3⟩ := hp
        obtain ⟨r1, r2, r3, r4⟩ := fin (some .ret) W3 p1
        exact ⟨_, _, r1, .inr ⟨rfl, .ret, (hIx _).put _ p3 (by omega) r2 nc, r3, r4⟩⟩
      | exit id =>
        obtain ⟨p1, p3⟩ := hp
        obtain ⟨r1, r2, r3, r4⟩ := fin (some (.exit id)) W3 p1
        exact ⟨_, _, r1, .inr ⟨rfl, .exit id, (hIx _).put _ p3 (by omega) r2 nc, r3, r4⟩⟩
      | goto t =>
        obtain ⟨p1, p3⟩ := hp
        obtain ⟨r1, r2, r3, r4⟩ := fin (some (.goto t)) W3 p1
        exact ⟨_, _, r1, .inr ⟨rfl, .goto t, (hIx _).put _ p3 (by omega) r2 nc, r3, r4⟩⟩
    · rintro e W2 ⟨⟨v, rfl⟩, (⟨xs, hS, hi, hl, hk⟩ | ⟨pre, hSp, c, hi, hl, hk⟩)⟩
      · have hr := run_endLoop (P := P) hl (by rw [hrec]; simp)
        rw [hrec] at hr
        exact ⟨none, _, hr, hdone _ xs _ (Nat.le_refl _) hS (hI.put _ hi (by omega) hl rfl) ((World.putObj_heap_other (by omega)).trans hk)⟩
      · have hr := run_endLoop (P := P) hl (by rw [hrec]; simp)
        rw [hrec] at hr
        exact ⟨some c, _, hr, hstop _ c pre _ (Nat.le_refl _) hSp ((hIx c).put _ hi (by omega) hl rfl) ((World.putObj_heap_other (by omega)).trans hk)⟩
end Go.Proofs.Ytahfoogcdgjimaa
