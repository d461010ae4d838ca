/- What can be reached, plainly. No program in sight. -/
import Derived.Test.YtbkaopeajjechaaGrV
namespace Go.Proofs.Ytbkaopeajjechaa
set_option linter.unusedVariables false
set_option linter.unusedSimpArgs false
open Go.RowKit Go.Maps

theorem getD_at {M : List Nat} {i : Nat} (h : i < M.length) : M.getD i 0 = M[i] := by
  simp [List.getD, List.getElem?_eq_getElem h]

/-- A thread's slots; an object's pointer fields. -/
def Gr.six (G : Gr) (t : Nat) : List Nat := (List.range 6).map (G.root t)
def Gr.kids (S : Nat → ByteArray) (G : Gr) (x : Nat) : List Nat := (List.range (S (G.sh x)).size).map (G.held S x)
/-- What the first threads' slots lead to; what is met as the list is gone through. -/
def Gr.met0 (G : Gr) : Nat → List Nat
  | 0 => []
  | i + 1 => meetL (G.met0 i) (G.six i)
def Gr.step (S : Nat → ByteArray) (G : Gr) (M : List Nat) (i : Nat) : List Nat := match M[i]? with
  | none => M
  | some x => meetL M (G.kids S x)
def Gr.met (T : Nat) (S : Nat → ByteArray) (G : Gr) : Nat → List Nat
  | 0 => G.met0 T
  | i + 1 => G.step S (G.met T S i) i
/-- The objects that can be reached, in the order in which they are met. -/
def Gr.reach (T : Nat) (S : Nat → ByteArray) (G : Gr) : List Nat := G.met T S G.n

theorem mem_meetL : ∀ (xs M : List Nat) (y : Nat), y ∈ meetL M xs ↔ y ∈ M ∨ (y ∈ xs ∧ y ≠ 0)
  | [], M, y => by simp [meetL]
  | x :: xs, M, y => by
    have ih := mem_meetL xs (if x = 0 ∨ x ∈ M then M else M ++ [x]) y
    have e : meetL M (x :: xs) = meetL (if x = 0 ∨ x ∈ M then M else M ++ [x]) xs := rfl
    rw [e, ih]
    by_cases h : x = 0 ∨ x ∈ M
    · rw [if_pos h]
      rcases h with h | h
      · subst h
        constructor
        · rintro (h | ⟨h, h'⟩)
          · exact .inl h
          · exact .inr ⟨List.mem_cons_of_mem _ h, h'⟩
        · rintro (h | ⟨h, h'⟩)
          · exact .inl h
          · rcases List.mem_cons.1 h with h | h
            · exact absurd h h'
            · exact .inr ⟨h, h'⟩
      · constructor
        · rintro (h | ⟨h, h'⟩)
          · exact .inl h
          · exact .inr ⟨List.mem_cons_of_mem _ h, h'⟩
        · rintro (h' | ⟨h', h''⟩)
          · exact .inl h'
          · rcases List.mem_cons.1 h' with e | e
            · subst e; exact .inl h
            · exact .inr ⟨e, h''⟩
    · rw [if_neg h]
      have hx : x ≠ 0 := fun e => h (.inl e)
      constructor
      · rintro (h | ⟨h, h'⟩)
        · rcases List.mem_append.1 h with h | h
          · exact .inl h
          · obtain rfl : y = x := by simpa using h
            exact .inr ⟨List.mem_cons_self, hx⟩
        · exact .inr ⟨List.mem_cons_of_mem _ h, h'⟩
      · rintro (h | ⟨h, h'⟩)
        · exact .inl (List.mem_append.2 (.inl h))
        · rcases List.mem_cons.1 h with e | e
          · subst e; exact .inl (List.mem_append.2 (.inr (by simp)))
          · exact .inr ⟨e, h'⟩

theorem meetL_pre : ∀ (xs M : List Nat), ∃ r, meetL M xs = M ++ r
  | [], M => ⟨[], by simp [meetL]⟩
  | x :: xs, M => by
    have e : meetL M (x :: xs) = meetL (if x = 0 ∨ x ∈ M then M else M ++ [x]) xs := rfl
    obtain ⟨r, hr⟩ := meetL_pre xs (if x = 0 ∨ x ∈ M then M else M ++ [x])
    rw [e, hr]
    by_cases h : x = 0 ∨ x ∈ M
    · rw [if_pos h]; exact ⟨r, rfl⟩
    · rw [if_neg h]; exact ⟨x :: r, by simp⟩

section
variable {T : Nat} {S : Nat → ByteArray} {G : Gr}

theorem step_pre (M : List Nat) (i : Nat) : ∃ r, G.step S M i = M ++ r := by
  unfold Gr.step
  cases M[i]? with
  | none => exact ⟨[], by simp⟩
  | some x => exact meetL_pre _ _

theorem step_old (M : List Nat) (i : Nat) (h : M.length ≤ i) : G.step S M i = M := by
  unfold Gr.step
  rw [List.getElem?_eq_none h]
theorem step_new (M : List Nat) (i : Nat) (h : i < M.length) : G.step S M i = meetL M (G.kids S (M.getD i 0)) := by
  unfold Gr.step
  rw [List.getElem?_eq_getElem h, getD_at h]

theorem met_add (i : Nat) : ∀ j, ∃ r, G.met T S (i + j) = G.met T S i ++ r
  | 0 => ⟨[], by simp⟩
  | j + 1 => by
    obtain ⟨r, hr⟩ := met_add i j
    obtain ⟨s, hs⟩ := step_pre (S := S) (G := G) (G.met T S (i + j)) (i + j)
    exact ⟨r ++ s, by show G.step S (G.met T S (i + j)) (i + j) = _; rw [hs, hr, List.append_assoc]⟩

theorem met_end (i : Nat) (h : (G.met T S i).length ≤ i) : ∀ j, G.met T S (i + j) = G.met T S i
  | 0 => rfl
  | j + 1 => by
    have := met_end i h j
    show G.step S (G.met T S (i + j)) (i + j) = _
    rw [this, step_old _ _ (by omega)]

/-- What is known of objects: each slot and each field leads to one, or to none. -/
structure Gr.In (D : Nat → Prop) (T : Nat) (S : Nat → ByteArray) (G : Gr) : Prop where
  root : ∀ t s, t < T → s < 6 → G.root t s = 0 ∨ D (G.root t s)
  held : ∀ x, D x → ∀ f, f < (S (G.sh x)).size → G.held S x f = 0 ∨ D (G.held S x f)
  num : ∀ x, D x → 1 ≤ x ∧ x ≤ G.n

variable {D : Nat → Prop}

theorem met0_ok (h : G.In D T S) : ∀ i, i ≤ T → (G.met0 i).Nodup ∧ ∀ x ∈ G.met0 i, x ≠ 0 ∧ D x
  | 0, _ => ⟨List.nodup_nil, fun x hx => by cases hx⟩
  | i + 1, hi => by
    obtain ⟨h1, h2⟩ := met0_ok h i (by omega)
    exact meetL_ok (D := D) (G.six i) (G.met0 i) h1 h2 (fun x hx => by
      obtain ⟨s, hs, rfl⟩ := List.mem_map.1 hx
      exact h.root i s (by omega) (List.mem_range.1 hs))

theorem met_ok (h : G.In D T S) : ∀ i, (G.met T S i).Nodup ∧ ∀ x ∈ G.met T S i, x ≠ 0 ∧ D x
  | 0 => met0_ok h T (Nat.le_refl _)
  | i + 1 => by
    obtain ⟨h1, h2⟩ := met_ok h i
    show (G.step S (G.met T S i) i).Nodup ∧ ∀ x ∈ G.step S (G.met T S i) i, x ≠ 0 ∧ D x
    rcases Nat.lt_or_ge i (G.met T S i).length with hl | hl
    · rw [step_new _ _ hl]
      have hx := h2 ((G.met T S i).getD i 0) (by rw [getD_at hl]; exact List.getElem_mem hl)
      exact meetL_ok (D := D) _ _ h1 h2 (fun x hx' => by
        obtain ⟨f, hf, rfl⟩ := List.mem_map.1 hx'
        exact h.held _ hx.2 f (List.mem_range.1 hf))
    · rw [step_old _ _ hl]
      exact ⟨h1, h2⟩

theorem len_le {n : Nat} {M : List Nat} (hn : M.Nodup) (h : ∀ x ∈ M, 1 ≤ x ∧ x ≤ n) : M.length ≤ n := by
  have := nodup_len n (M.map (· - 1)) (by
    rw [List.nodup_iff_pairwise_ne, List.pairwise_map]
    refine List.Pairwise.imp_of_mem ?_ (List.nodup_iff_pairwise_ne.1 hn)
    intro a b ha hb hab
    have := h a ha
    have := h b hb
    omega) (fun x hx => by
    obtain ⟨y, hy, rfl⟩ := List.mem_map.1 hx
    have := h y hy
    show y - 1 < n
    omega)
  simpa using this

theorem met_len (h : G.In D T S) (i : Nat) : (G.met T S i).length ≤ G.n := by
  obtain ⟨h1, h2⟩ := met_ok h i
  exact len_le h1 (fun x hx => h.num x (h2 x hx).2)

/-- Where the list is gone through, it is what can be reached. -/
theorem met_reach (h : G.In D T S) (i : Nat) (hi : i = (G.met T S i).length) : G.met T S i = G.reach T S := by
  have hl := met_len h i
  have := met_end i (Nat.le_of_eq hi.symm) (G.n - i)
  rw [show i + (G.n - i) = G.n by omega] at this
  exact this.symm

theorem reach_ok (h : G.In D T S) : (G.reach T S).Nodup ∧ ∀ x ∈ G.reach T S, x ≠ 0 ∧ D x := met_ok h _
theorem reach_len (h : G.In D T S) : (G.reach T S).length ≤ G.n := met_len h _

theorem met0_mem : ∀ i t s, t < i → s < 6 → G.root t s ≠ 0 → G.root t s ∈ G.met0 i
  | i + 1, t, s, ht, hs, h0 => by
    show _ ∈ meetL (G.met0 i) (G.six i)
    rw [mem_meetL]
    rcases Nat.lt_or_ge t i with h | h
    · exact .inl (met0_mem i t s h hs h0)
    · obtain rfl : t = i := by omega
      exact .inr ⟨List.mem_map.2 ⟨s, List.mem_range.2 hs, rfl⟩, h0⟩

theorem reach_pre (i : Nat) (h : i ≤ G.n) : ∃ r, G.reach T S = G.met T S i ++ r := by
  have := met_add (T := T) (S := S) (G := G) i (G.n - i)
  rw [show i + (G.n - i) = G.n by omega] at this
  exact this

/-- What slots hold can be reached. -/
theorem reach_root {t s : Nat} (ht : t < T) (hs : s < 6) (h0 : G.root t s ≠ 0) : G.root t s ∈ G.reach T S := by
  obtain ⟨r, hr⟩ := reach_pre (T := T) (S := S) (G := G) 0 (Nat.zero_le _)
  rw [hr]
  exact List.mem_append.2 (.inl (met0_mem T t s ht hs h0))

/-- What a field holds of an object that can be reached. -/
theorem reach_held (h : G.In D T S) {x f : Nat} (hx : x ∈ G.reach T S) (hf : f < (S (G.sh x)).size) (h0 : G.held S x f ≠ 0) : G.held S x f ∈ G.reach T S := by
  obtain ⟨i, hi, hxi⟩ := List.getElem_of_mem hx
  have hln := reach_len h
  have hi1 : i + 1 ≤ G.n := by omega
  have hs : G.met T S (i + 1) = G.step S (G.met T S i) i := rfl
  obtain ⟨r, hr⟩ := reach_pre (T := T) (S := S) (G := G) (i + 1) hi1
  rcases Nat.lt_or_ge i (G.met T S i).length with hl | hl
  · obtain ⟨r', hr'⟩ := reach_pre (T := T) (S := S) (G := G) i (by omega)
    have hx' : (G.met T S i).getD i 0 = x := by
      rw [getD_at hl, ← hxi]
      simp only [hr']
      rw [List.getElem_append_left hl]
    rw [hr, hs, step_new _ _ hl, hx']
    exact List.mem_append.2 (.inl ((mem_meetL _ _ _).2 (.inr ⟨List.mem_map.2 ⟨f, List.mem_range.2 hf, rfl⟩, h0⟩)))
  · exfalso
    have he := met_end i hl (G.n - i)
    rw [show i + (G.n - i) = G.n by omega] at he
    have : (G.reach T S).length = (G.met T S i).length := by unfold Gr.reach; rw [he]
    omega
end
end Go.Proofs.Ytbkaopeajjechaa
