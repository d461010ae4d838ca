/- GraphHolds, plainly: what is put is got; a compare-and-swap goes well just if both are the same. No walk in sight. -/
import Derived.Test.YtbkaopeajjechaaGsF
namespace Go.Proofs.Ytbkaopeajjechaa
set_option linter.unusedVariables false
set_option linter.unusedSimpArgs false
open Go.RowKit

section
variable {T : Nat} {len : Nat} {S : Nat → ByteArray} {G : Gr}

theorem opE_fld {k a b c f : Int} (hB : okTB len S = true) (hk : k = 2 ∧ c = 0 ∨ k = 3 ∧ c = 0 ∨ k = 4) (ha : 0 ≤ a ∧ a < 6) (hb : 0 ≤ b ∧ b < 6) (hc : 0 ≤ c ∧ c < 6) : opE len S (zl [k, a, b, c, f]) = 0 := by
  refine opE_0 hB (bareB_iff.2 ⟨?_, fun p hp hn => ?_⟩) ⟨ha, hb, hc⟩ ?_ ?_
  · show 1 ≤ k ∧ k ≤ 11
    omega
  · have hn' : p ∉ nmL k.toNat := hn
    obtain rfl | rfl | rfl | rfl | rfl | rfl | rfl : p = 0 ∨ p = 1 ∨ p = 2 ∨ p = 3 ∨ p = 4 ∨ p = 5 ∨ p = 6 := by omega
    · obtain ⟨rfl, _⟩ | ⟨rfl, _⟩ | rfl := hk <;> exact absurd (by decide) hn'
    · obtain ⟨rfl, _⟩ | ⟨rfl, _⟩ | rfl := hk <;> exact absurd (by decide) hn'
    · obtain ⟨rfl, h⟩ | ⟨rfl, h⟩ | rfl := hk
      · exact h
      · exact h
      · exact absurd (by decide) hn'
    · obtain ⟨rfl, _⟩ | ⟨rfl, _⟩ | rfl := hk <;> exact absurd (by decide) hn'
    · rfl
    · rfl
    · rfl
  · show ¬ k = 1
    omega
  · exact ⟨⟨by show (-576460752303423488 : Int) ≤ 0; omega, by show (0 : Int) ≤ 576460752303423487; omega⟩, ⟨by show (-576460752303423488 : Int) ≤ 0; omega, by show (0 : Int) ≤ 576460752303423487; omega⟩⟩

theorem opE_eq {a b : Int} (hB : okTB len S = true) (ha : 0 ≤ a ∧ a < 6) (hb : 0 ≤ b ∧ b < 6) : opE len S (zl [8, a, b]) = 0 := by
  refine opE_0 hB (bareB_iff.2 ⟨by show (1 : Int) ≤ 8 ∧ (8 : Int) ≤ 11; omega, fun p hp hn => ?_⟩) ⟨ha, hb, by show (0 : Int) ≤ 0 ∧ (0 : Int) < 6; omega⟩ (by show ¬ (8 : Int) = 1; omega) ?_
  · have hn' : p ∉ nmL 8 := hn
    obtain rfl | rfl | rfl | rfl | rfl | rfl | rfl : p = 0 ∨ p = 1 ∨ p = 2 ∨ p = 3 ∨ p = 4 ∨ p = 5 ∨ p = 6 := by omega
    · exact absurd (by decide) hn'
    · exact absurd (by decide) hn'
    all_goals rfl
  · exact ⟨⟨by show (-576460752303423488 : Int) ≤ 0; omega, by show (0 : Int) ≤ 576460752303423487; omega⟩, ⟨by show (-576460752303423488 : Int) ≤ 0; omega, by show (0 : Int) ≤ 576460752303423487; omega⟩⟩

theorem aF_in {t : Int} (h : aF T t = 0) : ∃ n : Nat, t = (n : Int) ∧ n < T := by
  unfold aF at h
  by_cases e : 0 ≤ t ∧ t < (T : Int)
  · exact ⟨t.toNat, by omega, by omega⟩
  · rw [if_neg e] at h; omega

theorem opE_of0 {z : Nat → Int} (h : opE len S z = 0) : okTB len S = true := by
  cases e1 : okTB len S with
  | false => rw [opE_2 e1] at h; omega
  | true => rfl

/-- The statement, plainly. -/
theorem holds_plain (hok : G.Ok len S T) (t a b f free : Int) (h1 : 3 ≤ free ∧ free ≤ 5) (ha : free ≠ a) (hb : free ≠ b)
    (h0 : G.aE len S T t (zl [3, a, b, 0, f]) = 0) (hF : aF T t = 0) :
    (((G.go len S T t (zl [3, a, b, 0, f])).go len S T t (zl [2, a, free, 0, f])).aI len S T t (zl [8, free, b])) = true ∧
    ((G.go len S T t (zl [2, a, free, 0, f])).aI len S T t (zl [8, free, b])) = (((G.go len S T t (zl [2, a, free, 0, f])).go len S T t (zl [8, free, b])).aI len S T t (zl [4, a, b, a, f])) := by
  obtain ⟨t, rfl, ht⟩ := aF_in hF
  have hin : 0 ≤ (t : Int) ∧ (t : Int) < (T : Int) := by omega
  have he : G.err len S t (zl [3, a, b, 0, f]) = 0 := by
    unfold Gr.aE at h0
    rw [if_pos hin, Int.toNat_natCast] at h0
    exact h0
  have ho : opE len S (zl [3, a, b, 0, f]) = 0 := by
    apply Classical.byContradiction
    intro hc
    unfold Gr.err at he
    rw [if_pos hc] at he
    exact hc he
  have hB := opE_of0 ho
  obtain ⟨-, ⟨sa, sb, -⟩, -⟩ := opE_zero ho
  have sa : 0 ≤ a ∧ a < 6 := sa
  have sb : 0 ≤ b ∧ b < 6 := sb
  have ox : ∀ {X : Gr} {k c b' : Int}, X.root t a.toNat = G.root t a.toNat → X.sh = G.sh → (k = 2 ∧ c = 0 ∨ k = 3 ∧ c = 0 ∨ k = 4) → 0 ≤ b' ∧ b' < 6 → 0 ≤ c ∧ c < 6 → X.err len S t (zl [k, a, b', c, f]) = 0 := fun {X k c b'} hr hs hk hb' hc => by
    have hop := opE_fld (len := len) (S := S) (f := f) hB hk sa hb' hc
    have hfk : fldK k = fldK 3 := by obtain ⟨rfl, _⟩ | ⟨rfl, _⟩ | rfl := hk <;> decide
    unfold Gr.err at he ⊢
    rw [if_neg (by rw [ho]; simp), if_neg (by show ¬ ((3 : Int) = 1 ∨ (8 : Int) ≤ 3); omega)] at he
    rw [if_neg (by rw [hop]; simp), if_neg (by show ¬ (k = 1 ∨ 8 ≤ k); omega)]
    show (if X.root t a.toNat = 0 then (183 : Int) else isE len S (X.sh (X.root t a.toNat)) f (fldK k)) = 0
    have he : (if G.root t a.toNat = 0 then (183 : Int) else isE len S (G.sh (G.root t a.toNat)) f (fldK 3)) = 0 := he
    rw [hr, hs, hfk]
    exact he
  obtain ⟨a, rfl⟩ : ∃ n : Nat, a = (n : Int) := ⟨a.toNat, by omega⟩
  obtain ⟨b, rfl⟩ : ∃ n : Nat, b = (n : Int) := ⟨b.toNat, by omega⟩
  obtain ⟨q, rfl⟩ : ∃ n : Nat, free = (n : Int) := ⟨free.toNat, by omega⟩
  have sq : 0 ≤ (q : Int) ∧ (q : Int) < 6 := by omega
  rw [Int.toNat_natCast] at ox
  have heq : ∀ X : Gr, X.err len S t (zl [8, (q : Int), (b : Int)]) = 0 := fun X => err_slot (opE_eq hB sq sb) (.inr (by show (8 : Int) ≤ 8; omega))
  have hfn : 0 ≤ G.fl (G.root t a) f.toNat := by
    have hop := ho
    have he2 := he
    unfold Gr.err at he2
    rw [if_neg (by rw [ho]; simp), if_neg (by show ¬ ((3 : Int) = 1 ∨ (8 : Int) ≤ 3); omega)] at he2
    have he2 : (if G.root t a = 0 then (183 : Int) else isE len S (G.sh (G.root t a)) f 0) = 0 := he2
    by_cases hr0 : G.root t a = 0
    · rw [if_pos hr0] at he2; omega
    rw [if_neg hr0] at he2
    have hrn := hok.root t a ht (by omega)
    unfold isE at he2
    by_cases hk : kindE len S (G.sh (G.root t a)) f = 0 ∧ kindV len S (G.sh (G.root t a)) f ≠ 0
    · rw [if_pos hk] at he2; omega
    rw [if_neg hk] at he2
    have hkv : kindV len S (G.sh (G.root t a)) f = 0 := Classical.byContradiction (fun h => hk ⟨he2, h⟩)
    have hks : 0 ≤ f ∧ f < ((S (G.sh (G.root t a))).size : Int) := by
      unfold kindE at he2
      by_cases e1 : ofE len S (G.sh (G.root t a)) = 0
      · rw [if_pos e1] at he2
        by_cases e2 : 0 ≤ f ∧ f < ((S ((G.sh (G.root t a) : Int)).toNat).size : Int)
        · simpa using e2
        · rw [if_neg e2] at he2; omega
      · rw [if_neg e1] at he2
        exact absurd he2 e1
    have hkd : kd (S (G.sh (G.root t a))) f.toNat = 0 := by
      unfold kindV at hkv
      rw [if_pos he2] at hkv
      simpa using hkv
    exact (hok.ptr (G.root t a) f.toNat (by omega) hrn (by omega) hkd).1
  have g1 := (go_ok t ht he).2.2.2.1
  have g1e : G.did t (zl [3, (a : Int), (b : Int), 0, f]) = G.field (G.root t a) f.toNat (G.root t b) := by
    unfold Gr.did
    rw [if_neg (by show ¬ (3 : Int) = 1; omega), if_neg (by show ¬ (3 : Int) = 2; omega), if_pos (by show (3 : Int) = 3; rfl)]
    rfl
  have did2 : ∀ X : Gr, X.did t (zl [2, (a : Int), (q : Int), 0, f]) = X.slot t q (X.fl (X.root t a) f.toNat).toNat := fun X => by
    unfold Gr.did
    rw [if_neg (by show ¬ (2 : Int) = 1; omega), if_pos (by show (2 : Int) = 2; rfl)]
    rfl
  have is8 : ∀ X : Gr, X.is t (zl [8, (q : Int), (b : Int)]) = (X.root t q == X.root t b) := fun X => by
    unfold Gr.is
    rw [if_neg (by show ¬ (8 : Int) = 2; omega), if_neg (by show ¬ (8 : Int) = 4; omega), if_neg (by show ¬ (8 : Int) = 7; omega), if_pos (by show (8 : Int) = 8; rfl)]
    rfl
  have did8 : ∀ X : Gr, X.did t (zl [8, (q : Int), (b : Int)]) = X := fun X => by
    unfold Gr.did
    rw [if_neg (by show ¬ (8 : Int) = 1; omega), if_neg (by show ¬ (8 : Int) = 2; omega), if_neg (by show ¬ (8 : Int) = 3; omega), if_neg (by show ¬ (8 : Int) = 4; omega), if_neg (by show ¬ (8 : Int) = 6; omega), if_neg (by show ¬ (8 : Int) = 7; omega), if_neg (by show ¬ (8 : Int) = 9; omega), if_neg (by show ¬ (8 : Int) = 10; omega)]
  have is4 : ∀ X : Gr, X.is t (zl [4, (a : Int), (b : Int), (a : Int), f]) = (X.fl (X.root t a) f.toNat == (X.root t b : Int)) := fun X => by
    unfold Gr.is
    rw [if_neg (by show ¬ (4 : Int) = 2; omega), if_pos (by show (4 : Int) = 4; rfl)]
    rfl
  have qa : a ≠ q := by omega
  have qb : b ≠ q := by omega
  have rs : ∀ (X : Gr) (v s : Nat), s ≠ q → (X.slot t q v).root t s = X.root t s := fun X v s hs => by
    show (if t = t ∧ s = q then v else X.root t s) = _
    rw [if_neg (by simp [hs])]
  have rq : ∀ (X : Gr) (v : Nat), (X.slot t q v).root t q = v := fun X v => if_pos ⟨rfl, rfl⟩
  constructor
  · rw [g1, g1e]
    have e2 : (G.field (G.root t a) f.toNat (G.root t b)).err len S t (zl [2, (a : Int), (q : Int), 0, f]) = 0 := ox rfl rfl (.inl ⟨rfl, rfl⟩) sq (by omega)
    rw [(go_ok t ht e2).2.2.2.1, did2, (go_ok t ht (heq _)).2.1, is8, rq, rs _ _ b qb]
    show ((if G.root t a = G.root t a ∧ f.toNat = f.toNat then ((G.root t b : Nat) : Int) else G.fl (G.root t a) f.toNat).toNat == G.root t b) = true
    rw [if_pos ⟨rfl, rfl⟩, Int.toNat_natCast]
    simp
  · have e2 : G.err len S t (zl [2, (a : Int), (q : Int), 0, f]) = 0 := ox rfl rfl (.inl ⟨rfl, rfl⟩) sq (by omega)
    rw [(go_ok t ht e2).2.2.2.1, did2, (go_ok t ht (heq _)).2.1, (go_ok t ht (heq _)).2.2.2.1, did8, is8, rq, rs _ _ b qb]
    have e4 : (G.slot t q (G.fl (G.root t a) f.toNat).toNat).err len S t (zl [4, (a : Int), (b : Int), (a : Int), f]) = 0 := ox (rs _ _ a qa) rfl (.inr (.inr rfl)) sb sa
    rw [(go_ok t ht e4).2.1, is4, rs _ _ a qa, rs _ _ b qb]
    show ((G.fl (G.root t a) f.toNat).toNat == G.root t b) = (G.fl (G.root t a) f.toNat == (G.root t b : Int))
    rw [Bool.eq_iff_iff]
    simp
    omega
end
end Go.Proofs.Ytbkaopeajjechaa
