/- Maps whose keys are pointers, gone over in whatever order. No program in sight. -/
import Derived.Test.YtbkaopeajjechaaPn
import Derived.Maps.RangeRun
namespace Go.Proofs.Ytbkaopeajjechaa
set_option linter.unusedVariables false
set_option linter.unusedSimpArgs false
open Go.RowKit
open Go.ChangeMaps (setBlock)

theorem entries_mem {e : MapEntry} : ∀ (K : List (Nat × Value)) (i0 : Nat), e ∈ entriesFrom K i0 → ∃ (i : Nat) (h : i < K.length), e = entryAt (i0 + i) K[i]
  | [], _, h => by cases h
  | x :: r, i0, h => by
    rcases List.mem_cons.1 (show e ∈ entryAt i0 x :: entriesFrom r (i0 + 1) from h) with h | h
    · exact ⟨0, by simp, h⟩
    · obtain ⟨i, hi, he⟩ := entries_mem r (i0 + 1) h
      exact ⟨i + 1, by simp; omega, by rw [he]; show entryAt (i0 + 1 + i) _ = entryAt (i0 + (i + 1)) _; rw [show i0 + 1 + i = i0 + (i + 1) by omega]; rfl⟩

theorem entries_at : ∀ (K : List (Nat × Value)) (i0 i : Nat) (h : i < K.length), entryAt (i0 + i) K[i] ∈ entriesFrom K i0
  | x :: r, i0, 0, _ => List.mem_cons_self
  | x :: r, i0, i + 1, h => by
    have := entries_at r (i0 + 1) i (by simp at h; omega)
    rw [show i0 + 1 + i = i0 + (i + 1) by omega] at this
    exact List.mem_cons_of_mem _ this

theorem entries_born : ∀ (K : List (Nat × Value)) (i0 : Nat), (entriesFrom K i0).map (·.born) = List.range' i0 K.length
  | [], _ => rfl
  | x :: r, i0 => by
    have := entries_born r (i0 + 1)
    show i0 :: (entriesFrom r (i0 + 1)).map (·.born) = _
    rw [this]
    rfl

/-- A loop over such a map under way: which entries came already. -/
structure PIter (W : World) (r pm : Nat) (K : List (Nat × Value)) (seen : List Nat) : Prop where
  it : W.heap[r]? = some (.mapIter (some pm) K.length seen.toArray K.length)
  nd : seen.Nodup
  lt : ∀ i ∈ seen, i < K.length

/-- How many are still to come. -/
def iterLeft (W : World) (r : Nat) : Nat := match W.heap[r]? with
  | some (.mapIter _ s seen _) => s - seen.size
  | _ => 0

variable {P : Program} {W : World} {r pm : Nat} {K : List (Nat × Value)} {seen : List Nat}

theorem PIter.left (h : PIter W r pm K seen) : iterLeft W r = K.length - seen.length := by
  unfold iterLeft
  rw [h.it]
  rfl

theorem nodup_lt : ∀ (n : Nat) (M : List Nat), M.Nodup → (∀ x ∈ M, x < n) → M.length ≤ n
  | 0, M, _, h => by
    cases M with
    | nil => simp
    | cons x r => have := h x List.mem_cons_self; omega
  | n + 1, M, hn, h => by
    by_cases hm : n ∈ M
    · have h1 := nodup_lt n (M.erase n) (hn.erase n) (fun x hx => by
        have h2 := h x (List.mem_of_mem_erase hx)
        have h3 : x ≠ n := (fun e => by rw [e] at hx; exact (List.Nodup.not_mem_erase hn) hx)
        omega)
      rw [List.length_erase_of_mem hm] at h1
      omega
    · have := nodup_lt n M hn (fun x hx => by
        have h2 := h x hx
        have h3 : x ≠ n := fun e => hm (e ▸ hx)
        omega)
      omega

theorem PIter.len (h : PIter W r pm K seen) : seen.length ≤ K.length := nodup_lt _ _ h.nd h.lt

theorem PIter.chg {Z : Nat → Prop} {V : World} (h : PIter W r pm K seen) (hb : ∀ i, i < W.heap.size → ¬ Z i → V.heap[i]? = W.heap[i]?) (hr : ¬ Z r) : PIter V r pm K seen :=
  ⟨(hb r (Array.getElem?_eq_some_iff.1 h.it).1 hr).trans h.it, h.nd, h.lt⟩

theorem run_range_pt {t k e : TypeId} (ht : P.underlying t = some (.map k e)) (hp : PMap W pm K) : (Instr.range t (.map (some pm))).run P W = .ok (.pointer (some ⟨W.heap.size, 0, none⟩)) (W.alloc (.mapIter (some pm) K.length #[] K.length)) := run_range_map W t k e pm _ _ ht hp.1

theorem PIter.start : PIter (W.alloc (.mapIter (some pm) K.length #[] K.length)) W.heap.size pm K [] := ⟨(MapKept.heap_alloc W _).1, List.nodup_nil, fun i h => by cases h⟩

theorem run_next_pt (ty : TypeId) (hp : PMap W pm K) (h : PIter W r pm K seen) :
    ((∀ i, i < K.length → i ∈ seen) ∧ (Instr.next (.pointer (some ⟨r, 0, none⟩)) false ty).run P W = .ok (.tuple #[.bool false]) W) ∨
    ∃ (i : Nat) (hi : i < K.length) (V : World), i ∉ seen ∧ (Instr.next (.pointer (some ⟨r, 0, none⟩)) false ty).run P W = .ok (.tuple #[.bool true, pt K[i].1, K[i].2]) V ∧ PIter V r pm K (seen ++ [i]) ∧ W.grownBy V (some r) := by
  have hold : ∀ x ∈ (entriesFrom K 0).toArray.toList, x.born < K.length := fun x hx => by
    obtain ⟨i, hi, rfl⟩ := entries_mem K 0 (by simpa using hx)
    show 0 + i < _
    omega
  rcases run_next_at (P := P) W ty r pm K.length K.length seen.toArray _ _ h.it hp.1 hold (Nat.le_refl _) with ⟨h1, h2⟩ | ⟨e, he, w1, hw, hrun⟩
  · refine .inl ⟨fun i hi => Classical.byContradiction fun hn => ?_, h2⟩
    have hm : entryAt i K[i] ∈ (leftOf (entriesFrom K 0).toArray seen.toArray).toList := by
      have := entries_at K 0 i hi
      rw [Nat.zero_add] at this
      simp only [leftOf, Array.toList_filter, List.mem_filter]
      exact ⟨this, by simpa [entryAt] using hn⟩
    have : (leftOf (entriesFrom K 0).toArray seen.toArray).toList.length = 0 := by simpa using h1
    rw [List.eq_nil_of_length_eq_zero this] at hm
    cases hm
  · simp only [leftOf, Array.toList_filter, List.mem_filter] at he
    obtain ⟨i, hi, rfl⟩ := entries_mem K 0 he.1
    rw [Nat.zero_add] at he hrun
    have hns : i ∉ seen := by simpa [entryAt] using he.2
    have hr : r < W.heap.size := (Array.getElem?_eq_some_iff.1 h.it).1
    have hw1 : w1.heap = W.heap ∧ w1.os = W.os ∧ w1.tape = W.tape ∧ w1.output = W.output := by rcases hw with rfl | rfl <;> exact ⟨rfl, rfl, rfl, rfl⟩
    refine .inr ⟨i, hi, _, hns, hrun, ⟨?_, ?_, ?_⟩, ?_⟩
    · show ((w1.heap.setIfInBounds r _))[r]? = _
      rw [hw1.1, Array.getElem?_setIfInBounds_self_of_lt hr]
      simp [entryAt]
    · rw [List.nodup_append]
      exact ⟨h.nd, by simp, fun a ha b hb => by
        obtain rfl : b = i := by simpa using hb
        exact fun e => hns (e ▸ ha)⟩
    · intro j hj
      rcases List.mem_append.1 hj with hj | hj
      · exact h.lt j hj
      · obtain rfl : j = i := by simpa using hj
        exact hi
    · refine ⟨hw1.2.1, hw1.2.2.1, hw1.2.2.2, by simp [setBlock, hw1.1], fun j hj hne => ?_⟩
      have hrj : r ≠ j := fun e => hne (by rw [e])
      show ((w1.heap.setIfInBounds r _))[j]? = _
      rw [hw1.1, Array.getElem?_setIfInBounds_ne hrj]

theorem run_entry_pt {i : Nat} (hi : i < K.length) (hp : PMap W pm K) (h : PIter W r pm K (seen ++ [i])) : (Instr.entry (.pointer (some ⟨r, 0, none⟩))).run P W = .ok (.tuple #[pt K[i].1, K[i].2]) W := by
  have hit := h.it
  have hm := entries_at K 0 i hi
  rw [Nat.zero_add] at hm
  refine run_entry_at (P := P) W r pm K.length seen.toArray (entriesFrom K 0).toArray K.length (entryAt i K[i]) ?_ hp.1 (by simpa using hm) ?_
  · rw [hit]
    simp [entryAt]
  · show ((entriesFrom K 0).map (·.born)).Nodup
    rw [entries_born]
    exact List.nodup_range'
end Go.Proofs.Ytbkaopeajjechaa
