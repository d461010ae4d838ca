/- Two steps of different words change places. No program in sight. -/
import Derived.Test.YtdkpadiaikfdpaaLgU
import Derived.Test.YtdkpadiaikfdpaaLawLogPartsW
namespace Go.Proofs.Ytdkpadiaikfdpaa
set_option linter.unusedVariables false
set_option linter.unusedSimpArgs false
open Go.RowKit

theorem doE_nonneg {m : Nat} {k a o v : Int} (h : doE m k a o v = 0) : 0 ≤ a := by
  unfold doE at h
  split at h
  · rename_i hb
    split at h
    · have := (accB_iff.1 hb).2.2.1 ‹_›
      omega
    · split at h <;> omega
  · omega

theorem upd_other {xs : Nat → Int} {i j : Nat} {v : Int} (h : i ≠ j) : upd xs i v j = xs j := by
  unfold upd
  rw [if_neg (fun e => h e.symm)]

theorem upd_comm {xs : Nat → Int} {i j : Nat} {u v : Int} (h : i ≠ j) : upd (upd xs i u) j v = upd (upd xs j v) i u := by
  funext x
  unfold upd
  by_cases h1 : x = j
  · by_cases h2 : x = i
    · omega
    · simp [h1, show ¬ j = i by omega]
  · simp [h1]

theorem doX_cases (m : Nat) (xs : Nat → Int) (k a o v : Int) : doX m xs k a o v = xs ∨ doX m xs k a o v = upd xs a.toNat v := by
  unfold doX
  split
  · exact .inr rfl
  · exact .inl rfl

theorem doA_far {m : Nat} {xs ys : Nat → Int} {k a o v : Int} (h : ys a.toNat = xs a.toNat) : doA m ys k a o v = doA m xs k a o v := by
  unfold doA
  rw [h]

theorem swap2 {m : Nat} {xs : Nat → Int} {k a o v k' a' o' v' : Int} (h : doE m k a o v = 0) (h' : doE m k' a' o' v' = 0) (hne : a ≠ a') :
    doX m (doX m xs k a o v) k' a' o' v' = doX m (doX m xs k' a' o' v') k a o v ∧ doA m (doX m xs k a o v) k' a' o' v' = doA m xs k' a' o' v' ∧ doA m (doX m xs k' a' o' v') k a o v = doA m xs k a o v := by
  have p := doE_nonneg h
  have p' := doE_nonneg h'
  have hn : a.toNat ≠ a'.toNat := by omega
  refine ⟨?_, ?_, ?_⟩
  · by_cases c : doE m k a o v = 0 ∧ (k = 2 ∨ (k = 3 ∧ xs a.toNat = o))
    · by_cases c' : doE m k' a' o' v' = 0 ∧ (k' = 2 ∨ (k' = 3 ∧ xs a'.toNat = o'))
      · have e1 : doX m xs k a o v = upd xs a.toNat v := by unfold doX; rw [if_pos c]
        have e2 : doX m xs k' a' o' v' = upd xs a'.toNat v' := by unfold doX; rw [if_pos c']
        have e3 : doX m (upd xs a.toNat v) k' a' o' v' = upd (upd xs a.toNat v) a'.toNat v' := by unfold doX; rw [upd_other hn, if_pos c']
        have e4 : doX m (upd xs a'.toNat v') k a o v = upd (upd xs a'.toNat v') a.toNat v := by unfold doX; rw [upd_other (fun e => hn e.symm), if_pos c]
        rw [e1, e2, e3, e4]
        exact upd_comm hn
      · have e1 : doX m xs k a o v = upd xs a.toNat v := by unfold doX; rw [if_pos c]
        have e2 : doX m xs k' a' o' v' = xs := by unfold doX; rw [if_neg c']
        have e3 : doX m (upd xs a.toNat v) k' a' o' v' = upd xs a.toNat v := by unfold doX; rw [upd_other hn, if_neg c']
        rw [e1, e2, e3, e1]
    · have e1 : doX m xs k a o v = xs := by unfold doX; rw [if_neg c]
      rw [e1]
      by_cases c' : doE m k' a' o' v' = 0 ∧ (k' = 2 ∨ (k' = 3 ∧ xs a'.toNat = o'))
      · have e2 : doX m xs k' a' o' v' = upd xs a'.toNat v' := by unfold doX; rw [if_pos c']
        rw [e2]
        unfold doX
        rw [upd_other (fun e => hn e.symm), if_neg c]
      · have e2 : doX m xs k' a' o' v' = xs := by unfold doX; rw [if_neg c']
        rw [e2, e1]
  · rcases doX_cases m xs k a o v with e | e <;> rw [e]
    exact doA_far (upd_other hn)
  · rcases doX_cases m xs k' a' o' v' with e | e <;> rw [e]
    exact doA_far (upd_other (fun e => hn e.symm))

/-- Steps with two of them in each other's place. -/
def swp (st : Nat → Nat → Int) (a : Nat) : Nat → Nat → Int := fun i => if i = a then st (a + 1) else if i = a + 1 then st a else st i

theorem aft_congr {m : Nat} {z : Nat → Int} {st st' : Nat → Nat → Int} : ∀ k, (∀ i, i < k → st i = st' i) → aft m z st k = aft m z st' k
  | 0, _ => rfl
  | k + 1, h => by
    show doX m (aft m z st k) _ _ _ _ = doX m (aft m z st' k) _ _ _ _
    rw [aft_congr k (fun i hi => h i (by omega)), h k (by omega)]

theorem swp_ok {m : Nat} {z : Nat → Int} {st : Nat → Nat → Int} {a L : Nat} (ha : a + 1 < L) (hok : ∀ i, i < L → okS m z st i = true) (hne : st a 2 ≠ st (a + 1) 2) :
    (∀ i, i < L → okS m z (swp st a) i = true) ∧ aft m z (swp st a) L = aft m z st L := by
  have pre : ∀ k, k ≤ a → aft m z (swp st a) k = aft m z st k := fun k hk => aft_congr k (fun i hi => by unfold swp; rw [if_neg (by omega), if_neg (by omega)])
  have sa : swp st a a = st (a + 1) := by unfold swp; rw [if_pos rfl]
  have sb : swp st a (a + 1) = st a := by unfold swp; rw [if_neg (by omega), if_pos rfl]
  have oa := hok a (by omega)
  have ob := hok (a + 1) ha
  unfold okS at oa ob
  simp only [Bool.and_eq_true, decide_eq_true_eq] at oa ob
  have hX : aft m z st (a + 1) = doX m (aft m z st a) (st a 1) (st a 2) (st a 3) (st a 4) := rfl
  obtain ⟨s1, s2, s3⟩ := swap2 (xs := aft m z st a) oa.1 ob.1 hne
  rw [hX] at ob
  have h1 : aft m z (swp st a) (a + 1) = doX m (aft m z st a) (st (a + 1) 1) (st (a + 1) 2) (st (a + 1) 3) (st (a + 1) 4) := by
    show doX m (aft m z (swp st a) a) (swp st a a 1) (swp st a a 2) (swp st a a 3) (swp st a a 4) = _
    rw [pre a (Nat.le_refl _), sa]
  have h2 : aft m z (swp st a) (a + 2) = aft m z st (a + 2) := by
    show doX m (aft m z (swp st a) (a + 1)) (swp st a (a + 1) 1) (swp st a (a + 1) 2) (swp st a (a + 1) 3) (swp st a (a + 1) 4) = doX m (aft m z st (a + 1)) (st (a + 1) 1) (st (a + 1) 2) (st (a + 1) 3) (st (a + 1) 4)
    rw [h1, sb, hX]
    exact s1.symm
  have tail : (fun i => swp st a (a + 2 + i)) = fun i => st (a + 2 + i) := by
    funext i
    unfold swp
    rw [if_neg (by omega), if_neg (by omega)]
  have post : ∀ j, aft m z (swp st a) (a + 2 + j) = aft m z st (a + 2 + j) := fun j => by
    have e1 := aft_add m z (swp st a) (a + 2) j
    rw [tail, h2] at e1
    exact e1.symm.trans (aft_add m z st (a + 2) j)
  refine ⟨fun i hi => ?_, by have := post (L - (a + 2)); rwa [show a + 2 + (L - (a + 2)) = L by omega] at this⟩
  by_cases h3 : i < a
  · have := hok i hi
    unfold okS at this ⊢
    rw [pre i (by omega), show swp st a i = st i by unfold swp; rw [if_neg (by omega), if_neg (by omega)]]
    exact this
  · by_cases h4 : i = a
    · subst h4
      unfold okS
      rw [pre i (Nat.le_refl _), sa]
      simp only [Bool.and_eq_true, decide_eq_true_eq]
      exact ⟨ob.1, by rw [← s2]; exact ob.2⟩
    · by_cases h5 : i = a + 1
      · subst h5
        unfold okS
        rw [h1, sb]
        simp only [Bool.and_eq_true, decide_eq_true_eq]
        exact ⟨oa.1, by rw [s3]; exact oa.2⟩
      · have := hok i hi
        obtain ⟨j, rfl⟩ : ∃ j, i = a + 2 + j := ⟨i - (a + 2), by omega⟩
        rw [← okS_add m z st (a + 2) j] at this
        rw [← okS_add m z (swp st a) (a + 2) j, tail, h2]
        exact this
end Go.Proofs.Ytdkpadiaikfdpaa
