/- The second loop of a graph's Copy, plainly: which of the new objects have their pointer fields. No walk in sight. -/
import Derived.Test.YtbkaopeajjechaaGsA
import Derived.Test.YtbkaopeajjechaaPq
namespace Go.Proofs.Ytbkaopeajjechaa
set_option linter.unusedVariables false
set_option linter.unusedSimpArgs false
open Go.RowKit Go.Maps

/-- The new object for an old one, as a pointer. -/
def twp (a : Nat → Nat) (R : List Nat) (x : Nat) : Value := if x = 0 then .pointer none else pt (a (R.idxOf x))

structure TwB (S : Nat → ByteArray) (G : Gr) (L : Lay) (R : List Nat) (base b2 pm : Nat) (W : World) (seen : List Nat) (a ib : Nat → Nat) (iA : Nat → Option Addr) (ic hb : Nat → Nat) (hA : Nat → Option Addr) (hc : Nat → Nat) : Prop where
  map : PMap W pm ((List.range R.length).map fun i => (L.adr (R.getD i 0), pt (a i)))
  obj : ∀ i, i < R.length → W.heap[a i]? = some (Obj.cells #[.int .i64 (G.sh (R.getD i 0)), if i ∈ seen then .slice (hA i) (S (G.sh (R.getD i 0))).size (hc i) else .slice none 0 0, .slice (iA i) (S (G.sh (R.getD i 0))).size (ic i)] 91 (0, 0)) ∧ base ≤ a i ∧ a i < b2
  ints : ∀ i, i < R.length → 0 < (S (G.sh (R.getD i 0))).size → iA i = some ⟨ib i, 0, none⟩ ∧ base ≤ ib i ∧ ib i < a i ∧ (∃ c, W.heap[ib i]? = some (Obj.cells c 2 (0, 0))) ∧ ∀ f, f < (S (G.sh (R.getD i 0))).size → W.cell? ⟨ib i, f, none⟩ = some (.int .i64 (G.ints S (R.getD i 0) f))
  ord : ∀ i j, i < j → j < R.length → a i < a j ∧ (0 < (S (G.sh (R.getD j 0))).size → a i < ib j)
  held : ∀ i, i < R.length → i ∈ seen → 0 < (S (G.sh (R.getD i 0))).size → hA i = some ⟨hb i, 0, none⟩ ∧ b2 ≤ hb i ∧ (∃ c, W.heap[hb i]? = some (Obj.cells c 71 (0, 0))) ∧ ∀ f, f < (S (G.sh (R.getD i 0))).size → W.cell? ⟨hb i, f, none⟩ = some (twp a R (G.held S (R.getD i 0) f))
  dis : ∀ i j, i < R.length → j < R.length → i ∈ seen → j ∈ seen → i ≠ j → 0 < (S (G.sh (R.getD i 0))).size → 0 < (S (G.sh (R.getD j 0))).size → hb i ≠ hb j

section
variable {S : Nat → ByteArray} {G : Gr} {L : Lay} {R : List Nat} {base b2 pm : Nat} {W V : World} {seen : List Nat} {a ib ic hb hc : Nat → Nat} {iA hA : Nat → Option Addr}

theorem TwB.keep (h : TwB S G L R base b2 pm W seen a ib iA ic hb hA hc) (hk : ∀ b o, W.heap[b]? = some o → (b = pm ∨ o.isCells = true) → V.heap[b]? = W.heap[b]?) : TwB S G L R base b2 pm V seen a ib iA ic hb hA hc := by
  refine ⟨⟨(hk pm _ h.map.1 (.inl rfl)).trans h.map.1, fun x hx => ?_⟩, fun i hi => ⟨(hk _ _ (h.obj i hi).1 (.inr rfl)).trans (h.obj i hi).1, (h.obj i hi).2⟩, fun i hi hs => ?_, h.ord, fun i hi hm hs => ?_, h.dis⟩
  · obtain ⟨c, t, e⟩ := h.map.2 x hx
    exact ⟨c, t, (hk _ _ e (.inr rfl)).trans e⟩
  · obtain ⟨h1, h2, h3, ⟨c, hc⟩, h4⟩ := h.ints i hi hs
    have hb := hk _ _ hc (.inr rfl)
    exact ⟨h1, h2, h3, ⟨c, hb.trans hc⟩, fun f hf => (World.cell?_of_block (a := ⟨ib i, f, none⟩) hb).trans (h4 f hf)⟩
  · obtain ⟨h1, h2, ⟨c, hc⟩, h4⟩ := h.held i hi hm hs
    have hb' := hk _ _ hc (.inr rfl)
    exact ⟨h1, h2, ⟨c, hb'.trans hc⟩, fun f hf => (World.cell?_of_block (a := ⟨hb i, f, none⟩) hb').trans (h4 f hf)⟩

theorem TwB.ne (h : TwB S G L R base b2 pm W seen a ib iA ic hb hA hc) {i j : Nat} (hi : i < R.length) (hj : j < R.length) (hij : i ≠ j) : a i ≠ a j ∧ (0 < (S (G.sh (R.getD j 0))).size → a i ≠ ib j) := by
  rcases Nat.lt_or_ge i j with e | e
  · have := h.ord i j e hj
    exact ⟨by omega, fun hs => by have := this.2 hs; omega⟩
  · have := h.ord j i (by omega) hi
    exact ⟨by omega, fun hs => by have := (h.ints j hj hs).2.2.1; omega⟩

/-- One object has its pointer fields. -/
theorem TwB.more (h : TwB S G L R base b2 pm W seen a ib iA ic hb hA hc) {i : Nat} (hi : i < R.length) (hn : i ∉ seen) (hb2 : b2 ≤ W.heap.size) (hpm : pm ≠ a i) (hK : ∀ x ∈ R, L.adr x ≠ a i)
    (hg : ∀ b, b < W.heap.size → b ≠ a i → V.heap[b]? = W.heap[b]?) {vA : Option Addr} {vb vc : Nat}
    (ho : V.heap[a i]? = some (Obj.cells #[.int .i64 (G.sh (R.getD i 0)), .slice vA (S (G.sh (R.getD i 0))).size vc, .slice (iA i) (S (G.sh (R.getD i 0))).size (ic i)] 91 (0, 0)))
    (hv : 0 < (S (G.sh (R.getD i 0))).size → vA = some ⟨vb, 0, none⟩ ∧ W.heap.size ≤ vb ∧ (∃ c, V.heap[vb]? = some (Obj.cells c 71 (0, 0))) ∧ ∀ f, f < (S (G.sh (R.getD i 0))).size → V.cell? ⟨vb, f, none⟩ = some (twp a R (G.held S (R.getD i 0) f))) :
    TwB S G L R base b2 pm V (seen ++ [i]) a ib iA ic (fun j => if j = i then vb else hb j) (fun j => if j = i then vA else hA j) (fun j => if j = i then vc else hc j) := by
  have hl : ∀ {b o}, W.heap[b]? = some o → b < W.heap.size := fun h => (Array.getElem?_eq_some_iff.1 h).1
  have hblt : ∀ j, j < R.length → j ∈ seen → 0 < (S (G.sh (R.getD j 0))).size → hb j < W.heap.size := fun j hj hm hs => by
    obtain ⟨_, _, ⟨c, hc⟩, _⟩ := h.held j hj hm hs
    exact hl hc
  refine ⟨⟨(hg pm (hl h.map.1) hpm).trans h.map.1, fun x hx => ?_⟩, fun j hj => ?_, fun j hj hs => ?_, h.ord, fun j hj hm hs => ?_, fun j k hj' hk' hj hk hjk hs1 hs2 => ?_⟩
  · obtain ⟨c, t, e⟩ := h.map.2 x hx
    refine ⟨c, t, (hg _ (hl e) ?_).trans e⟩
    obtain ⟨q, hq, rfl⟩ := List.mem_map.1 hx
    have hq := List.mem_range.1 hq
    exact hK _ (by rw [getD_at hq]; exact List.getElem_mem hq)
  · by_cases e : j = i
    · subst e
      rw [if_pos (List.mem_append.2 (.inr (by simp)))]
      simp only [if_pos]
      exact ⟨ho, (h.obj j hj).2⟩
    · simp only [if_neg e]
      have hm : (j ∈ seen ++ [i]) ↔ j ∈ seen := by simp [e]
      simp only [hm]
      exact ⟨(hg _ (hl (h.obj j hj).1) (h.ne hj hi e).1).trans (h.obj j hj).1, (h.obj j hj).2⟩
  · obtain ⟨h1, h2, h3, ⟨c, hc⟩, h4⟩ := h.ints j hj hs
    have hne : ib j ≠ a i := by
      by_cases e : j = i
      · subst e; omega
      · exact fun e2 => (h.ne hi hj (fun k => e k.symm)).2 hs e2.symm
    have hb' := hg _ (hl hc) hne
    exact ⟨h1, h2, h3, ⟨c, hb'.trans hc⟩, fun f hf => (World.cell?_of_block (a := ⟨ib j, f, none⟩) hb').trans (h4 f hf)⟩
  · by_cases e : j = i
    · subst e
      simp only [if_pos]
      obtain ⟨h1, h2, h3⟩ := hv hs
      exact ⟨h1, by omega, h3⟩
    · simp only [if_neg e]
      have hm' : j ∈ seen := by
        rcases List.mem_append.1 hm with hm | hm
        · exact hm
        · exact absurd (by simpa using hm) e
      obtain ⟨h1, h2, ⟨c, hc⟩, h4⟩ := h.held j hj hm' hs
      have hb' := hg _ (hl hc) (by have := (h.obj i hi).2.2; omega)
      exact ⟨h1, h2, ⟨c, hb'.trans hc⟩, fun f hf => (World.cell?_of_block (a := ⟨hb j, f, none⟩) hb').trans (h4 f hf)⟩
  · have hv1 := fun hs => (hv hs).2.1
    have old : ∀ j, j ∈ seen ++ [i] → j ≠ i → j ∈ seen := fun j hm e => by
      rcases List.mem_append.1 hm with hm | hm
      · exact hm
      · exact absurd (by simpa using hm) e
    by_cases e : j = i
    · subst e
      have e2 : k ≠ j := fun e => hjk e.symm
      simp only [if_pos, if_neg e2]
      have := hblt k hk' (old k hk e2) hs2
      have := hv1 hs1
      omega
    · by_cases e2 : k = i
      · subst e2
        simp only [if_pos, if_neg e]
        have := hblt j hj' (old j hj e) hs1
        have := hv1 hs2
        omega
      · simp only [if_neg e, if_neg e2]
        exact h.dis j k hj' hk' (old j hj e) (old k hk e2) hjk hs1 hs2
end
end Go.Proofs.Ytbkaopeajjechaa
