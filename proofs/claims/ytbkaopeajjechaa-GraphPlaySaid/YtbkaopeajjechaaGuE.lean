/- Such a loop where the body is told of its own record (a loop within it wants that), and the assign code may lay blocks. No program in sight. The walks of package shape: All, the fields of a shape gone over. Views in memory: rows of numbers, rows of rows, nodes. No walk in sight. -/
import Derived.Test.YtbkaopeajjechaaRg
import Derived.RangeFuncNested
import Derived.RangeFuncBound
import Derived.RangeFuncCalls
import Derived.RangeFuncLeaves
import Derived.Shelf.Abstract
import Derived.Shelf.RegionOpen
import Derived.OwnWalkIn
import Derived.TacticsInMore
import Derived.LoopNIn
import Derived.LoopIn
import Derived.Test.YtbkaopeajjechaaGrX
namespace Go.Proofs.Ytbkaopeajjechaa
set_option linter.unusedVariables false
set_option linter.unusedSimpArgs false
open Go.RowKit

variable {F : Fence} {n : Nat} {P : Program}

/-- The loop, its body told of its record. -/
theorem wpIn_rangeFunc_OH {α : Type} {g : Operand} {ps : Array Tmp} {assign body : Code} {Q : Exit → Act → World → Prop} {a : Act} {w : World}
    (hro : F.round = none) (h1 : 1 ≤ n) {gf : Nat} {lb : Array Value} (hg : a.eval g = .func (.func gf) #[] lb) (hFg : F.fn gf) (eg : ∀ args w, (callFunc gf args).run P w = .ok (.enter gf args) w)
    {encs : α → Array Value} {Kp : World → World → Prop} {Ok : List α → α → Prop} {S Sp : List α → Prop} {w0 : World} (hseq : SeqO F (n - 1) P gf lb encs Kp Ok S Sp w0)
    (hKt : ∀ {A B C : World}, Kp A B → Kp B C → Kp A C) (hKb : ∀ (W : World) (l : Nat) (o o' : Obj), w.heap.size ≤ l → W.heap[l]? = some o → o.isCells = false → o.isWalk = false → Kp W (W.putObj l o')) (hb0 : Below w0.heap.size w0 w) (hps : ∀ x, (encs x).size = ps.size)
    (I : List α → World → Prop) (Ix : Code → List α → World → Prop) (hI : OwnFrom w.heap.size I) (hIx : ∀ c, OwnFrom w.heap.size (Ix c)) (h0 : I [] w) (Ax : α → Act → World → Prop) (hAx : ∀ x a', OwnFrom w.heap.size (fun (_ : Unit) W => Ax x a' W))
    (hassign : ∀ (l : Nat) (pre : List α) (x : α) (W : World) (K : Act → World → Prop), I pre W → Ok pre x → (∀ a' W', KeepsFrom w.heap.size W W' → Kp W W' → I pre W' → Ax x a' W' → K a' W') →
      assign.wpIn (F.inRound l) (n - 1 - 1) P (Exit.then K (fun _ _ _ => False)) { tmps := (ps.zip (encs x)).foldl (fun t (p, v) => t.setIfInBounds p v) a.tmps, defers := [] } W)
    (hbody : ∀ (l : Nat) (pre : List α) (x : α) (a' : Act) (W : World), w.heap.size ≤ l → (∃ r, W.heap[l]? = some (.loop r)) → I pre W → Ax x a' W → Ok pre x → body.wpIn (F.inRound l) (n - 1 - 1) P (ownPostG w.heap.size Kp I Ix (pre ++ [x]) W) a' W)
    (hdone : ∀ (D : Nat) (xs : List α) (W : World), w.heap.size ≤ D → S xs → I xs W → W.heap[D]? = some (.deferred (some [])) → Q .normal { a with defers := { target := .collected D, args := #[] } :: a.defers } W)
    (hstop : ∀ (D : Nat) (c : Code) (pre : List α) (W : World), w.heap.size ≤ D → Sp pre → Ix c pre W → W.heap[D]? = some (.deferred (some [])) → c.wpIn F n P Q { a with defers := { target := .collected D, args := #[] } :: a.defers } W) :
    (Code.rangeFunc g ps assign body).wpIn F n P Q a w := by
  refine wpIn_rangeFunc ?_
  intro fn hfn
  rw [hro]
  obtain ⟨rec, hrec⟩ : ∃ rec : LoopState → Option Code → Loop, rec = fun st pe => { state := st, pending := pe, fn, tmps := a.tmps, params := ps, assign, body, defers := w.heap.size } := ⟨_, rfl⟩
  obtain ⟨W1, hW1⟩ : ∃ W1, (w.alloc (.deferred (some []))).alloc (.loop (rec .ready none)) = W1 := ⟨_, rfl⟩
  have hK1 : W1.heap[w.heap.size]? = some (.deferred (some [])) := by
    rw [← hW1]
    exact (Below.heap_alloc _ _ _ (by simp)).trans (World.alloc_heap_new w _)
  have hL1 : W1.heap[w.heap.size + 1]? = some (.loop (rec .ready none)) := by
    have q := World.alloc_heap_new (w.alloc (.deferred (some []))) (.loop (rec .ready none))
    rw [← hW1]
    rwa [World.size_alloc] at q
  have hb1 : Below w0.heap.size w0 W1 := by
    have q : Below w.heap.size w W1 := by
      rw [← hW1]
      exact ((Below.refl _ w).alloc (Nat.le_refl _) _).alloc (by simp) _
    exact hb0.trans (q.mono hb0.size)
  have hI1 : I [] W1 := by
    rw [← hW1]
    exact hI.alloc _ (hI.alloc _ h0)
  refine ⟨w.heap.size + 1, [{ target := .collected w.heap.size, args := #[] }], W1, { target := .fn (.func gf) lb, args := #[.func (.yield (w.heap.size + 1)) #[] #[]] }, W1, gf,
    #[.func (.yield (w.heap.size + 1)) #[] #[]] ++ lb, W1, ?_, ?_, ?_, ?_, fun _ => h1, ?_⟩
  · rw [← hW1, hrec]
    exact run_enterLoop_outer _ _ _ _ _
  · simp only [resolve, hg]
    simp [go_sem]
  · intro f' hf'
    simp [Target.leads] at hf'
    subst hf'
    exact hFg
  · simp [invoke, go_sem, eg]
  · refine (hseq (w.heap.size + 1)
      (fun pre W => I pre W ∧ W.heap[w.heap.size + 1]? = some (.loop (rec .ready none)) ∧ W.heap[w.heap.size]? = some (.deferred (some [])))
      (fun pre W => ∃ c, Ix c pre W ∧ W.heap[w.heap.size + 1]? = some (.loop (rec .done (some c))) ∧ W.heap[w.heap.size]? = some (.deferred (some [])))
      W1 hb1 ?_ ?_ ?_ ⟨hI1, hL1, hK1⟩).mono ?_
    · rintro s A B ⟨q1, q2, q3⟩ hg'
      exact ⟨hI s A B none q1 hg' (fun r e => by cases e), kept_none hg' q2, kept_none hg' q3⟩
    · rintro s A B ⟨c, q1, q2, q3⟩ hg'
      exact ⟨c, hIx c s A B none q1 hg' (fun r e => by cases e), kept_none hg' q2, kept_none hg' q3⟩
    · rintro pre x W ⟨hi, hl, hk⟩ hlen
      have hlt : w.heap.size + 1 < W.heap.size := (Array.getElem?_eq_some_iff.1 hl).1
      have hy := run_yield (P := P) (args := encs x) hl (by rw [hrec]; exact hps x)
      rw [hrec] at hy
      refine ⟨fn, _, assign, body, hy, roundIn_of_wpIn hfn (hassign _ pre x W _ hi hlen ?_)⟩
      clear hy
      intro a' Wa hkfa hkpa hia hax
      replace hl := hkfa.same _ _ (by omega) hl rfl
      replace hk := hkfa.same _ _ (Nat.le_refl _) hk rfl
      replace hlt : w.heap.size + 1 < Wa.heap.size := (Array.getElem?_eq_some_iff.1 hl).1
      replace hi := hia
      clear hia
      revert hkpa hkfa
      generalize W = Wb
      intro hkfa hkpa
      obtain ⟨W, rfl⟩ : ∃ W, W = Wa := ⟨_, rfl⟩
      refine ⟨_, run_beginRound hl (by rw [hrec]), ?_⟩
      obtain ⟨busy, hbusy⟩ : ∃ q, q = Obj.loop { rec .ready none with state := .busy } := ⟨_, rfl⟩
      have hl2 : (W.putObj (w.heap.size + 1) busy).heap[w.heap.size + 1]? = some busy := World.putObj_heap_same hlt
      have hk2 : (W.putObj (w.heap.size + 1) busy).heap[w.heap.size]? = some (.deferred (some [])) := (World.putObj_heap_other (by omega)).trans hk
      have hw2 : Kp W (W.putObj (w.heap.size + 1) busy) := hKb _ _ _ _ (by omega) hl rfl rfl
      have hi2 : I pre (W.putObj (w.heap.size + 1) busy) := hI.putObj _ hi (by omega) hl rfl
      have hax2 := (hAx x a').putObj (s := ()) (.loop { rec .ready none with state := .busy }) hax (by omega) hl rfl
      have nc : busy.isCells = false := by rw [hbusy]; rfl
      have nw : busy.isWalk = false := by rw [hbusy]; rfl
      rw [← hbusy] at hax2 ⊢
      refine wpIn_mono (hbody _ pre x a' _ (by omega) ⟨_, by rw [hl2, hbusy]⟩ hi2 hax2 hlen) ?_
      have fin : ∀ (jump : Option Code) (W3 : World), KeepsFrom w.heap.size (W.putObj (w.heap.size + 1) busy) W3 →
          (Instr.endRound (w.heap.size + 1) jump).run P W3 = .ok (.bool jump.isNone) (W3.putObj (w.heap.size + 1) (.loop (rec (if jump.isNone then .ready else .done) jump))) ∧
          W3.heap[w.heap.size + 1]? = some busy ∧
          (W3.putObj (w.heap.size + 1) (.loop (rec (if jump.isNone then .ready else .done) jump))).heap[w.heap.size + 1]? = some (.loop (rec (if jump.isNone then .ready else .done) jump)) ∧
          (W3.putObj (w.heap.size + 1) (.loop (rec (if jump.isNone then .ready else .done) jump))).heap[w.heap.size]? = some (.deferred (some [])) := by
        intro jump W3 hk3
        have hl3 := hk3.same _ _ (by omega) hl2 nc
        have hl3' := hl3
        rw [hbusy] at hl3'
        have hr := run_endRound (P := P) jump hl3'
        rw [hrec] at hr ⊢
        exact ⟨hr, hl3, World.putObj_heap_same (Array.getElem?_eq_some_iff.1 hl3).1, (World.putObj_heap_other (by omega)).trans (hk3.same _ _ (Nat.le_refl _) hk2 rfl)⟩
      intro e a3 W3 hp
      cases e with
      | panic ch => exact hp.elim
      | outgrown => exact hp.elim
      | normal =>
        obtain ⟨p1, p2, p3⟩ := hp
        obtain ⟨r1, r2, r3, r4⟩ := fin none W3 p1
        exact ⟨_, _, r1, .inl ⟨rfl, ⟨hI.putObj _ p3 (by omega) r2 nc, r3, r4⟩, hKt hkpa (hKt (hKt hw2 p2) (hKb _ _ _ _ (by omega) r2 nc nw))⟩⟩
      | ret =>
        obtain ⟨p1, p3⟩ := hp
        obtain ⟨r1, r2, r3, r4⟩ := fin (some .ret) W3 p1
        exact ⟨_, _, r1, .inr ⟨rfl, .ret, (hIx _).putObj _ p3 (by omega) r2 nc, r3, r4⟩⟩
      | exit id =>
        obtain ⟨p1, p3⟩ := hp
        obtain ⟨r1, r2, r3, r4⟩ := fin (some (.exit id)) W3 p1
        exact ⟨_, _, r1, .inr ⟨rfl, .exit id, (hIx _).putObj _ p3 (by omega) r2 nc, r3, r4⟩⟩
      | goto t =>
        obtain ⟨p1, p3⟩ := hp
        obtain ⟨r1, r2, r3, r4⟩ := fin (some (.goto t)) W3 p1
        exact ⟨_, _, r1, .inr ⟨rfl, .goto t, (hIx _).putObj _ p3 (by omega) r2 nc, r3, r4⟩⟩
    · rintro e W2 ⟨⟨v, rfl⟩, (⟨xs, hS, hi, hl, hk⟩ | ⟨pre, hSp, c, hi, hl, hk⟩)⟩
      · have hr := run_endLoop (P := P) hl (by rw [hrec]; simp)
        rw [hrec] at hr
        exact ⟨none, _, hr, hdone _ xs _ (Nat.le_refl _) hS (hI.putObj _ hi (by omega) hl rfl) ((World.putObj_heap_other (by omega)).trans hk)⟩
      · have hr := run_endLoop (P := P) hl (by rw [hrec]; simp)
        rw [hrec] at hr
        exact ⟨some c, _, hr, hstop _ c pre _ (Nat.le_refl _) hSp ((hIx c).putObj _ hi (by omega) hl rfl) ((World.putObj_heap_other (by omega)).trans hk)⟩
end Go.Proofs.Ytbkaopeajjechaa

namespace Go.Proofs.Ytbkaopeajjechaa
open Go.RowKit Go.Maps Go.Shelf

attribute [local go_sem] Oper.semAt_some

theorem run_next_at {P : Program} {W : World} {b : Nat} {s : ByteArray} {pos : Nat} (h : W.heap[b]? = some (.stringIter s pos)) (ty : TypeId) (hl : pos < s.size) (ha : (s[pos]'hl).toNat < 128) :
    (Instr.next (.pointer (some ⟨b, 0, none⟩)) true ty).run P W = .ok (.tuple #[.bool true, .int .i64 pos, .int .i32 (s[pos]'hl).toNat]) (W.putObj b (.stringIter s (pos + 1))) := by
  simp only [Instr.next, getObj, setObj, Sem.run_bind, Sem.run, h, Result.andThen, hl, if_true, decode_ascii s pos hl ha]
  simp [goInt, World.putObj]
theorem run_next_at_end {P : Program} {W : World} {b : Nat} {s : ByteArray} {pos : Nat} (h : W.heap[b]? = some (.stringIter s pos)) (ty : TypeId) (hl : ¬ pos < s.size) :
    (Instr.next (.pointer (some ⟨b, 0, none⟩)) true ty).run P W = .ok (.tuple #[.bool false]) W := by
  simp [Instr.next, getObj, Sem.run, h, hl]

theorem take_fin {m k : Nat} (h : k < m) : (List.finRange m).take (k + 1) = (List.finRange m).take k ++ [⟨k, h⟩] := by
  rw [List.take_add_one, List.getElem?_eq_getElem (by simpa using h)]
  simp

/-- What a round leaves alone: walks, and one box. -/
def KpS (Bs : Nat) (A B : World) : Prop := KeepsWalks A B ∧ ∀ c t f, A.heap[Bs]? = some (Obj.cells c t f) → B.heap[Bs]? = A.heap[Bs]?
theorem KpS.trans {Bs : Nat} {A B C : World} (h : KpS Bs A B) (k : KpS Bs B C) : KpS Bs A C :=
  ⟨h.1.trans k.1, fun c t f e => by have e2 := h.2 c t f e; exact (k.2 c t f (e2.trans e)).trans e2⟩
theorem KpS.put {Bs : Nat} (W : World) (l : Nat) (o o' : Obj) (h : W.heap[l]? = some o) (ho : o.isCells = false) (hw : o.isWalk = false) : KpS Bs W (W.putObj l o') :=
  ⟨KeepsWalks.putObj _ h hw, fun c t f e => World.putObj_heap_other (fun k => by
    subst k
    rw [h] at e
    cases e
    cases ho)⟩

theorem allF_any (s : ByteArray) (w : World) :
    Calls Try.prog 41 #[.string s] w fun e w' => e = .returned (.func (.func 74) #[] #[.pointer (some ⟨w.heap.size, 0, none⟩)]) ∧ w.alloc (.cells #[.string s] 65) = w' := by
  go_enter Try.func41, Try.ntmps41
  go_wp2
  go_ret
  exact ⟨rfl, rfl⟩

set_option maxRecDepth 100000 in
set_option maxHeartbeats 4000000 in
/-- The iterator of a shape that may be: its fields in order, each with its kind. -/
theorem allF_stops (n : Nat) (hn : 1 ≤ n) (s : ByteArray) (hok : okS s) (Bs : Nat) (w : World) (hc : w.heap[Bs]? = some (Obj.cells #[.string s] 65 (0, 0))) :
    SeqStopsK Fence.wide n Try.prog 74 #[.pointer (some ⟨Bs, 0, none⟩)] (fun i : Fin s.size => #[Value.int .i64 (i.val : Int), Value.int .i64 (kd s i.val)]) (KpS Bs) (fun ys => ys = List.finRange s.size) (fun _ => True) s.size w := by
  intro l J Jx W hW hJ hJx hY h0
  have lB0 : Bs < w.heap.size := (Array.getElem?_eq_some_iff.1 hc).1
  have hBs : W.heap[Bs]? = some (Obj.cells #[.string s] 65 (0, 0)) := (hW.block Bs lB0).trans hc
  have lB : Bs < W.heap.size := (Array.getElem?_eq_some_iff.1 hBs).1
  have hc0 : W.cell? ⟨Bs, 0, none⟩ = some (.string s) := by rw [Lib.cell_of_heap hBs]; rfl
  have hsm := hok.1
  have c1 := bad_any s W (by omega)
  rw [okB_yes hok] at c1
  clear hc hW
  show CallsIn Fence.wide n Try.prog 74 #[.func (.yield l) #[] #[], .pointer (some ⟨Bs, 0, none⟩)] W _
  refine callsIn_of_wp Try.func74 rfl trivial ?_ rfl
  simp only [Try.ntmps74, List.size_toArray, List.length_cons, List.length_nil, Nat.reduceAdd, Nat.reduceSub, Array.replicate_succ, Array.replicate_zero, List.push_toArray, List.append_toArray, List.nil_append, List.cons_append]
  refine wideScope ?_
  gi_wp2
  refine ⟨trivial, ?_⟩
  refine (callsIn_wide.2 c1).mono ?_
  rintro e w1 ⟨rfl, hw1⟩
  have hJ1 : J [] w1 := hJ _ _ _ none h0 (grown_below hw1 none) (by intro r e; cases e)
  have z1 := hw1.size
  have hB1 := (hw1.block Bs lB).trans hBs
  have q1 : w1.cell? ⟨Bs, 0, none⟩ = some (.string s) := by rw [Lib.cell_of_heap hB1]; rfl
  clear hw1 h0 c1
  gi_wp2
  refine wpIn_label ?_
  gi_wp2
  have hbi : Below w1.heap.size w1 (w1.iter s 0) := by unfold World.iter; repeat (first | exact Below.refl _ _ | assumption | refine Below.alloc ?_ (by first | (simp; done) | (simp; omega) | omega) _ | refine Below.setCell ?_ (by first | (simp; done) | (simp; omega) | omega) _ | apply Below.drew | refine Below.trans ?_ (Below.mono (by assumption) (by first | (simp; done) | (simp; omega) | omega)))
  have hJ2 : J [] (w1.iter s 0) := hJ _ _ _ none hJ1 (grown_below hbi none) (by intro r e; cases e)
  have hB2 := (hbi.block Bs (by omega)).trans hB1
  have hi2 := World.iter_heap w1 s 0
  generalize w1.iter s 0 = w2 at *
  clear hbi hJ1 hB1 q1
  gi_loopw [] (fun wr => ∃ pos : Nat, pos ≤ s.size ∧ wr.heap[w1.heap.size]? = some (.stringIter s pos) ∧ Hid (J ((List.finRange s.size).take pos) wr) ∧ wr.heap[Bs]? = some (Obj.cells #[.string s] 65 (0, 0))) (fun wr => s.size - wr.iterPos w1.heap.size)
  case atStart => exact ⟨0, Nat.zero_le _, hi2, hide (by simpa using hJ2), hB2⟩
  case round =>
    obtain ⟨pos, hp, hit, hJs, hBw⟩ := hrel
    by_cases hlt : pos < s.size
    · have hl := hok.2 pos hlt
      unfold ltr at hl
      have hnx := fun ty => run_next_at (P := Try.prog) hit ty hlt (by omega)
      gi_wp2
      refine ⟨trivial, ?_⟩
      have hgV : wr.grownBy (wr.putObj w1.heap.size (.stringIter s (pos + 1))) (some w1.heap.size) := ⟨rfl, rfl, rfl, by simp [World.putObj], fun i _ hne => World.putObj_heap_other (fun e => hne (by rw [e]))⟩
      have hJV : J ((List.finRange s.size).take pos) (wr.putObj w1.heap.size (.stringIter s (pos + 1))) := hJ _ _ _ _ (unhide hJs) hgV (by
        intro r e
        injection e with e
        subst e
        exact ⟨by omega, _, hit, rfl⟩)
      have hiV : (wr.putObj w1.heap.size (.stringIter s (pos + 1))).heap[w1.heap.size]? = some (.stringIter s (pos + 1)) := World.putObj_heap_same (Array.getElem?_eq_some_iff.1 hit).1
      have hBV : (wr.putObj w1.heap.size (.stringIter s (pos + 1))).heap[Bs]? = some (Obj.cells #[.string s] 65 (0, 0)) := (World.putObj_heap_other (by omega)).trans hBw
      have HIT : Hid (wr.iterPos w1.heap.size = pos) := hide (by simp [World.iterPos, hit])
      generalize wr.putObj w1.heap.size (.stringIter s (pos + 1)) = V at *
      clear hgV hit hBw hJs hnx
      refine (callsIn_wide.2 (lettersV_any V)).mono ?_
      rintro e w3 ⟨rfl, hv, hb3⟩
      have hJ3 := hJ _ _ _ none hJV (grown_below hb3 none) (by intro r e; cases e)
      have hi3 := (hb3.block _ (Array.getElem?_eq_some_iff.1 hiV).1).trans hiV
      have hB3 := (hb3.block _ (Array.getElem?_eq_some_iff.1 hBV).1).trans hBV
      have hlk := hv w3 (Below.refl _ _) (((s[pos]'hlt).toNat : Nat) : Int) (WalkArith.wf_i32 (by omega))
      have hkd : ltV (((s[pos]'hlt).toNat : Nat) : Int) = .int .i64 (kd s pos) := by
        unfold ltV kd
        rw [show s.get! pos = s[pos]'hlt by simp [ByteArray.get!, hlt]; rfl]
        by_cases h : (s[pos]'hlt).toNat = 115
        · rw [if_pos h, if_pos (by omega)]
        · rw [if_neg h, if_neg (by omega)]
      rw [hkd] at hlk
      obtain ⟨fn, tmps, assign, body, hy, hR⟩ := hY _ (⟨pos, hlt⟩ : Fin s.size) w3 hJ3 (by simp; omega)
      clear hkd hv hb3 hJV hiV hBV hl
      generalize kd s pos = kk at *
      gi_wp2
      refine hR.mono ?_
      rintro e W3 (⟨rfl, hJ4, hk4⟩ | ⟨rfl, hJx4⟩)
      · have hi4 := hk4.1.same _ _ hi3 rfl
        have hB4 := (hk4.2 _ _ _ hB3).trans hB3
        rw [← take_fin hlt] at hJ4
        have HJ4 := hide hJ4
        clear hJ4 hi3 hB3 hJ3 hlk hy hR hk4
        gi_wp2
        go_roundw
        case rel => exact ⟨pos + 1, by omega, hi4, HJ4, hB4⟩
        case measure =>
          rw [unhide HIT]
          simp [World.iterPos, hi4]
          omega
      · gi_wp2
        (try simp only [Exit.noGoto])
        go_end0
        exact ⟨⟨_, rfl⟩, .inr ⟨_, trivial, hJx4⟩⟩
    · obtain rfl : pos = s.size := by omega
      have hnx := fun ty => run_next_at_end (P := Try.prog) hit ty hlt
      gi_wp2
      (try simp only [Exit.noGoto])
      go_end0
      exact ⟨⟨_, rfl⟩, .inl ⟨_, rfl, by have := unhide hJs; rwa [List.take_of_length_le (by simp)] at this⟩⟩
end Go.Proofs.Ytbkaopeajjechaa

namespace Go.Proofs.Ytbkaopeajjechaa
open Go.RowKit Go.Maps

/-- A row of numbers in memory. -/
def RdI (t : TypeId) (W : World) (v : Value) (l : List Int) : Prop :=
  ∃ A c, v = .slice A l.length c ∧ ∀ (j : Nat) (x : Int), l[j]? = some x → ∃ g cur, A = some ⟨g, 0, none⟩ ∧ W.heap[g]? = some (Obj.cells cur t (0, 0)) ∧ W.cell? ⟨g, j, none⟩ = some (.int .i64 x)

theorem RdI.keep {t : TypeId} {W V : World} {v : Value} {l : List Int} (h : RdI t W v l) (hk : ∀ (b : Nat) cur, W.heap[b]? = some (Obj.cells cur t (0, 0)) → V.heap[b]? = W.heap[b]?) : RdI t V v l := by
  obtain ⟨A, c, e, h⟩ := h
  refine ⟨A, c, e, fun j x hj => ?_⟩
  obtain ⟨g, cur, e1, e2, e3⟩ := h j x hj
  have := hk g cur e2
  exact ⟨g, cur, e1, this.trans e2, (World.cell?_of_block (a := ⟨g, j, none⟩) this).trans e3⟩

theorem RdI.below {t : TypeId} {W V : World} {v : Value} {l : List Int} (h : RdI t W v l) (hb : Below W.heap.size W V) : RdI t V v l :=
  h.keep (fun b _ e => hb.block b (Array.getElem?_eq_some_iff.1 e).1)

theorem RdI.of_row {t : TypeId} {W : World} {base : Nat} {v : Value} {l : List Int} (h : W.ownsRow base t 1 v l.length (l.map (Value.int .i64))) : RdI t W v l := by
  have h' : W.ownsRow base t 1 v (l.map (Value.int .i64)).length (l.map (Value.int .i64)) := by rw [List.length_map]; exact h
  obtain ⟨A, c, e, hf⟩ := row_form h'
  rw [List.length_map] at e
  refine ⟨A, c, e, fun j x hj => ?_⟩
  obtain ⟨g, e1, e2, cur, e3⟩ := hf j (.int .i64 x) (by simp [hj])
  exact ⟨g, cur, e1, e3, e2⟩

/-- Rows of rows while they are made; nodes while they are made. -/
def LLo (base : Nat) (W : World) (v : Value) (L : List (List Int)) : Prop :=
  ∃ xs, W.ownsRow base 46 1 v L.length xs ∧ xs.length = L.length ∧ ∀ (t : Nat) (l : List Int), L[t]? = some l → ∃ u, xs[t]? = some u ∧ RdI 3 W u l
def NLo (base : Nat) (W : World) (v : Value) (L : List (Int × List Int)) : Prop :=
  ∃ xs, W.ownsRow base 97 2 v L.length xs ∧ xs.length = L.length * 2 ∧ ∀ (t : Nat) (p : Int × List Int), L[t]? = some p → xs[t * 2]? = some (.int .i64 p.1) ∧ ∃ u, xs[t * 2 + 1]? = some u ∧ RdI 2 W u p.2

theorem LLo.grown {base : Nat} {W V : World} {v : Value} {L : List (List Int)} {row : Option Nat} (h : LLo base W v L) (hg : W.grownBy V row) (h1 : v.ownBlock ≠ row ∨ v.ownBlock = none) (h2 : ∀ r, row = some r → ∀ cur, W.heap[r]? ≠ some (Obj.cells cur 3 (0, 0))) : LLo base V v L := by
  obtain ⟨xs, ho, hl, hx⟩ := h
  refine ⟨xs, ho.kept hg (by rcases h1 with h1 | h1; exact .inr h1; exact .inl h1), hl, fun t l ht => ?_⟩
  obtain ⟨u, e1, e2⟩ := hx t l ht
  exact ⟨u, e1, e2.keep (fun b cur e => hg.block b (Array.getElem?_eq_some_iff.1 e).1 (fun k => h2 b k.symm cur e))⟩
theorem NLo.grown {base : Nat} {W V : World} {v : Value} {L : List (Int × List Int)} {row : Option Nat} (h : NLo base W v L) (hg : W.grownBy V row) (h1 : v.ownBlock ≠ row ∨ v.ownBlock = none) (h2 : ∀ r, row = some r → ∀ cur, W.heap[r]? ≠ some (Obj.cells cur 2 (0, 0))) : NLo base V v L := by
  obtain ⟨xs, ho, hl, hx⟩ := h
  refine ⟨xs, ho.kept hg (by rcases h1 with h1 | h1; exact .inr h1; exact .inl h1), hl, fun t l ht => ?_⟩
  obtain ⟨e0, u, e1, e2⟩ := hx t l ht
  exact ⟨e0, u, e1, e2.keep (fun b cur e => hg.block b (Array.getElem?_eq_some_iff.1 e).1 (fun k => h2 b k.symm cur e))⟩

/-- Rows of rows, nodes as they are read. -/
def RdLL (W : World) (v : Value) (L : List (List Int)) : Prop :=
  ∃ A c, v = .slice A L.length c ∧ ∀ (t : Nat) (l : List Int), L[t]? = some l → ∃ g u, A = some ⟨g, 0, none⟩ ∧ g < W.heap.size ∧ W.cell? ⟨g, t, none⟩ = some u ∧ RdI 3 W u l
def RdNd (W : World) (v : Value) (L : List (Int × List Int)) : Prop :=
  ∃ A c, v = .slice A L.length c ∧ ∀ (t : Nat) (p : Int × List Int), L[t]? = some p → ∃ g u, A = some ⟨g, 0, none⟩ ∧ g < W.heap.size ∧ W.cell? ⟨g, t * 2, none⟩ = some (.int .i64 p.1) ∧ W.cell? ⟨g, t * 2 + 1, none⟩ = some u ∧ RdI 2 W u p.2
/-- A view. -/
def RdVw (W : World) (v : Value) (V : List (List Int) × List (Int × List Int)) : Prop := ∃ a b, v = .agg #[a, b] ∧ RdLL W a V.1 ∧ RdNd W b V.2

theorem RdLL.below {W V : World} {v : Value} {L : List (List Int)} (h : RdLL W v L) (hb : Below W.heap.size W V) : RdLL V v L := by
  obtain ⟨A, c, e, h⟩ := h
  refine ⟨A, c, e, fun t l ht => ?_⟩
  obtain ⟨g, u, e1, e2, e3, e4⟩ := h t l ht
  exact ⟨g, u, e1, Nat.lt_of_lt_of_le e2 hb.size, (hb.cell (p := ⟨g, t, none⟩) e2).trans e3, e4.below hb⟩
theorem RdNd.below {W V : World} {v : Value} {L : List (Int × List Int)} (h : RdNd W v L) (hb : Below W.heap.size W V) : RdNd V v L := by
  obtain ⟨A, c, e, h⟩ := h
  refine ⟨A, c, e, fun t l ht => ?_⟩
  obtain ⟨g, u, e1, e2, e3, e4, e5⟩ := h t l ht
  exact ⟨g, u, e1, Nat.lt_of_lt_of_le e2 hb.size, (hb.cell (p := ⟨g, t * 2, none⟩) e2).trans e3, (hb.cell (p := ⟨g, t * 2 + 1, none⟩) e2).trans e4, e5.below hb⟩
theorem RdVw.below {W U : World} {v : Value} {V : List (List Int) × List (Int × List Int)} (h : RdVw W v V) (hb : Below W.heap.size W U) : RdVw U v V := by
  obtain ⟨a, b, e, h1, h2⟩ := h
  exact ⟨a, b, e, h1.below hb, h2.below hb⟩

theorem row_form2 {W : World} {base : Nat} {e : TypeId} {v : Value} {n : Nat} {xs : List Value} (h : W.ownsRow base e 2 v n xs) : ∃ A c, v = .slice A n c ∧ ∀ j u, xs[j]? = some u → ∃ g, A = some ⟨g, 0, none⟩ ∧ g < W.heap.size ∧ W.cell? ⟨g, j, none⟩ = some u := by
  rcases h.2 with ⟨e1, e2⟩ | ⟨g, c, cur, e1, _, hg, _⟩
  · refine ⟨none, 0, by rw [e1, e2], fun j u hu => ?_⟩
    have := h.1
    rw [e2] at this
    obtain rfl : xs = [] := List.eq_nil_of_length_eq_zero (by omega)
    simp at hu
  · refine ⟨_, c, e1, fun j u hu => ⟨g, rfl, (Array.getElem?_eq_some_iff.1 hg).1, ?_⟩⟩
    have := h.cells (g := g) (by rw [e1]; rfl) j u hu
    rwa [show (⟨g, 0, none⟩ : Addr).add j = ⟨g, j, none⟩ by unfold Addr.add; split <;> simp_all] at this

theorem LLo.rd {base : Nat} {W : World} {v : Value} {L : List (List Int)} (h : LLo base W v L) : RdLL W v L := by
  obtain ⟨xs, ho, hl, hx⟩ := h
  rw [← hl] at ho
  obtain ⟨A, c, e, hf⟩ := row_form ho
  refine ⟨A, c, by rw [e, hl], fun t l ht => ?_⟩
  obtain ⟨u, e1, e2⟩ := hx t l ht
  obtain ⟨g, e3, e4, cur, e5⟩ := hf t u e1
  exact ⟨g, u, e3, (Array.getElem?_eq_some_iff.1 e5).1, e4, e2⟩
theorem NLo.rd {base : Nat} {W : World} {v : Value} {L : List (Int × List Int)} (h : NLo base W v L) : RdNd W v L := by
  obtain ⟨xs, ho, hl, hx⟩ := h
  obtain ⟨A, c, e, hf⟩ := row_form2 ho
  refine ⟨A, c, e, fun t p ht => ?_⟩
  obtain ⟨e0, u, e1, e2⟩ := hx t p ht
  obtain ⟨g, e3, e4, e5⟩ := hf _ _ e0
  obtain ⟨g', e3', e4', e5'⟩ := hf _ _ e1
  rw [e3] at e3'
  injection e3' with e3'
  injection e3' with e3' _ _
  subst e3'
  exact ⟨g, u, e3, e4, e5, e5', e2⟩

theorem own_type {W : World} {base : Nat} {e : TypeId} {k n : Nat} {v : Value} {xs : List Value} (h : W.ownsRow base e k v n xs) (r : Nat) (hr : v.ownBlock = some r) : ∃ cur, W.heap[r]? = some (Obj.cells cur e (0, 0)) := by
  rcases h.2 with ⟨e1, _⟩ | ⟨g, c, cur, e1, _, hg, _⟩
  · rw [e1] at hr
    cases hr
  · rw [e1] at hr
    have hr : some g = some r := hr
    injection hr with hr
    subst hr
    exact ⟨cur, hg⟩

theorem LLo.more {base : Nat} {W V : World} {v v' u : Value} {L : List (List Int)} {l : List Int} {xs : List Value} (ho : W.ownsRow base 46 1 v L.length xs) (hxl : xs.length = L.length)
    (hx : ∀ (t : Nat) (l : List Int), L[t]? = some l → ∃ u, xs[t]? = some u ∧ RdI 3 W u l) (how : V.ownsRow base 46 1 v' (L.length + 1) (xs ++ [u])) (hg : W.grownBy V v.ownBlock) (hu : RdI 3 W u l) : LLo base V v' (L ++ [l]) := by
  have hk : ∀ (b : Nat) cur, W.heap[b]? = some (Obj.cells cur 3 (0, 0)) → V.heap[b]? = W.heap[b]? := fun b cur e => hg.block b (Array.getElem?_eq_some_iff.1 e).1 (fun k => by
    obtain ⟨c2, h2⟩ := own_type ho b k.symm
    rw [e] at h2
    injection h2 with h2
    injection h2 with _ h2 _
    exact absurd h2 (by decide))
  refine ⟨xs ++ [u], by rw [List.length_append]; exact how, by simp [hxl], fun t m ht => ?_⟩
  rcases Nat.lt_or_ge t L.length with h | h
  · rw [List.getElem?_append_left h] at ht
    obtain ⟨u', e1, e2⟩ := hx t m ht
    exact ⟨u', by rw [List.getElem?_append_left (by omega)]; exact e1, e2.keep hk⟩
  · obtain rfl : t = L.length := by
      have := (List.getElem?_eq_some_iff.1 ht).1
      simp at this
      omega
    simp at ht
    subst ht
    exact ⟨u, by rw [← hxl]; simp, hu.keep hk⟩

theorem NLo.more {base : Nat} {W V : World} {v v' u : Value} {L : List (Int × List Int)} {p : Int × List Int} {xs : List Value} (ho : W.ownsRow base 97 2 v L.length xs) (hxl : xs.length = L.length * 2)
    (hx : ∀ (t : Nat) (p : Int × List Int), L[t]? = some p → xs[t * 2]? = some (.int .i64 p.1) ∧ ∃ u, xs[t * 2 + 1]? = some u ∧ RdI 2 W u p.2) (how : V.ownsRow base 97 2 v' (L.length + 1) (xs ++ [.int .i64 p.1, u])) (hg : W.grownBy V v.ownBlock) (hu : RdI 2 W u p.2) : NLo base V v' (L ++ [p]) := by
  have hk : ∀ (b : Nat) cur, W.heap[b]? = some (Obj.cells cur 2 (0, 0)) → V.heap[b]? = W.heap[b]? := fun b cur e => hg.block b (Array.getElem?_eq_some_iff.1 e).1 (fun k => by
    obtain ⟨c2, h2⟩ := own_type ho b k.symm
    rw [e] at h2
    injection h2 with h2
    injection h2 with _ h2 _
    exact absurd h2 (by decide))
  refine ⟨xs ++ [.int .i64 p.1, u], by rw [List.length_append]; exact how, by simp [hxl]; omega, fun t m ht => ?_⟩
  rcases Nat.lt_or_ge t L.length with h | h
  · rw [List.getElem?_append_left h] at ht
    obtain ⟨e0, u', e1, e2⟩ := hx t m ht
    exact ⟨by rw [List.getElem?_append_left (by omega)]; exact e0, u', by rw [List.getElem?_append_left (by omega)]; exact e1, e2.keep hk⟩
  · obtain rfl : t = L.length := by
      have := (List.getElem?_eq_some_iff.1 ht).1
      simp at this
      omega
    simp at ht
    subst ht
    refine ⟨by rw [← hxl]; simp, u, ?_, hu.keep hk⟩
    rw [← hxl, List.getElem?_append_right (by omega)]
    simp

/-- What a view tells. -/
def nidx (R : List Nat) (x : Nat) : Int := if x = 0 then 0 else ((R.idxOf x : Int) + 1)
def vrow (R : List Nat) (G : Gr) (t : Nat) : List Int := (List.range 6).map fun s => nidx R (G.root t s)
def vnode (S : Nat → ByteArray) (R : List Nat) (G : Gr) (x : Nat) : Int × List Int := ((G.sh x : Int), (List.range (S (G.sh x)).size).map fun f => if kd (S (G.sh x)) f = 0 then nidx R (G.held S x f) else G.ints S x f)
def Gr.view (T : Nat) (S : Nat → ByteArray) (G : Gr) : List (List Int) × List (Int × List Int) := ((List.range T).map (vrow (G.reach T S) G), (G.reach T S).map (vnode S (G.reach T S) G))

theorem lookI_posV {b : Nat} : ∀ (K : List (Nat × Value)) (i0 p : Nat) (hp : p < K.length), b = K[p].1 → (∀ (q : Nat) (hq : q < K.length), q < p → b ≠ K[q].1) → lookI b K i0 = some (i0 + p, K[p].2)
  | x :: r, i0, 0, _, h, _ => by
    unfold lookI
    rw [if_pos (by simpa using h)]
    rfl
  | x :: r, i0, p + 1, hp, h, hn => by
    unfold lookI
    rw [if_neg (show ¬ b = x.1 from hn 0 (by simp) (by omega))]
    have := lookI_posV r (i0 + 1) p (by simp at hp; omega) (by simpa using h) (fun q hq hqp => hn (q + 1) (by simp; omega) (by omega))
    rw [this]
    simp
    omega

theorem idxOf_leV : ∀ (R : List Nat) (q : Nat) (h : q < R.length), R.idxOf R[q] ≤ q
  | x :: r, 0, _ => by simp
  | x :: r, q + 1, h => by
    have hq : q < r.length := by simp at h; omega
    have := idxOf_leV r q hq
    rw [List.getElem_cons_succ, List.idxOf_cons]
    cases (x == r[q]'hq) with
    | true => exact Nat.zero_le _
    | false => simpa using this

theorem lookV_num {L : Lay} {R : List Nat} {D : Nat → Prop} (hinj : ∀ x y, D x → D y → L.adr x = L.adr y → x = y) (hR : ∀ x ∈ R, D x) {y : Nat} (hy : y ∈ R) (hy0 : y ≠ 0) (z : Value) :
    lookV (L.adr y) ((List.range R.length).map fun i => (L.adr (R.getD i 0), Value.int .i64 ((i : Int) + 1))) z = .int .i64 (nidx R y) := by
  have hl : R.idxOf y < R.length := List.idxOf_lt_length_of_mem hy
  have h := lookI_posV (b := L.adr y) ((List.range R.length).map fun i => (L.adr (R.getD i 0), Value.int .i64 ((i : Int) + 1))) 0 (R.idxOf y) (by simpa using hl) (by
    simp only [List.getElem_map, List.getElem_range]
    rw [getD_at hl, List.getElem_idxOf]) (fun q hq hqp => by
    have hq' : q < R.length := by simpa using hq
    simp only [List.getElem_map, List.getElem_range]
    rw [getD_at hq']
    intro e
    have e2 := hinj _ _ (hR _ hy) (hR _ (List.getElem_mem hq')) e
    have h3 : R.idxOf y ≤ q := by
      rw [e2]
      exact idxOf_leV _ _ hq'
    omega)
  unfold lookV nidx
  rw [h, if_neg hy0]
  simp

theorem lookI_noV (b : Nat) : ∀ (K : List (Nat × Value)) (i : Nat), (∀ q ∈ K, b ≠ q.1) → lookI b K i = none
  | [], _, _ => rfl
  | x :: r, i, h => by
    unfold lookI
    rw [if_neg (h x List.mem_cons_self)]
    exact lookI_noV b r (i + 1) (fun q hq => h q (List.mem_cons_of_mem _ hq))

/-- Blocks laid one behind the other. -/
theorem allocs_size : ∀ (os : List Obj) (w : World), (os.foldl World.alloc w).heap.size = w.heap.size + os.length
  | [], w => rfl
  | o :: r, w => by
    rw [List.foldl_cons, allocs_size r, World.size_alloc, List.length_cons]
    omega
theorem allocs_below (os : List Obj) (w : World) : Below w.heap.size w (os.foldl World.alloc w) := by
  induction os generalizing w with
  | nil => exact Below.refl _ _
  | cons o r ih => exact ((Below.refl _ _).alloc (Nat.le_refl _) o).trans ((ih (w.alloc o)).mono (by simp))
theorem allocs_at : ∀ (os : List Obj) (w : World) (i : Nat) (o : Obj), os[i]? = some o → (os.foldl World.alloc w).heap[w.heap.size + i]? = some o
  | [], _, _, _, h => by simp at h
  | a :: r, w, 0, o, h => by
    simp at h
    subst h
    exact ((allocs_below r (w.alloc a)).block w.heap.size (by simp)).trans (World.alloc_heap_new w a)
  | a :: r, w, i + 1, o, h => by
    have := allocs_at r (w.alloc a) i o (by simpa using h)
    rw [World.size_alloc] at this
    rw [List.foldl_cons, show w.heap.size + (i + 1) = w.heap.size + 1 + i by omega]
    exact this

theorem ownFrom_chg {β : Type} {Z : Nat → Prop} {B : Nat} {w₀ : World} (hB : w₀.heap.size ≤ B) : OwnFrom B (fun (_ : β) W => Chg Z w₀ W) :=
  fun _ _ _ _ hs hg hr => ⟨hg.os.trans hs.os, hg.tape.trans hs.tape, hg.output.trans hs.output, Nat.le_trans hs.size hg.size, fun j hj hn => (hg.block j (Nat.lt_of_lt_of_le hj hs.size) (fun e => by have := (hr j e.symm).1; omega)).trans (hs.block j hj hn)⟩
end Go.Proofs.Ytbkaopeajjechaa
