/- Package claim: what a machine does next, as a function of numbers. -/
import Derived.Test.YtnnllhlcpmmcaaaClG
namespace Go.Proofs.Ytnnllhlcpmmcaaa
set_option linter.unusedVariables false
set_option linter.unusedSimpArgs false
open Go.RowKit

/-- The part of a machine that changes. -/
structure Mc where
  pl : Int
  tr : Int
  wa : Int
  ga : Int
  gg : Int
  oe : Int
  oa : Int
  og : Int

/-- A claim. -/
structure Ask where
  t : Int
  sp : Int
  A : Option Addr
  len : Nat
  cap : Nat
  s : Int
  n : Int
  mo : Int

def Mc.c (M : Mc) (q : Ask) : Nat → Value := mkC q.t q.sp q.A q.len q.cap q.s q.n q.mo M.pl M.tr M.wa 0 M.ga M.gg M.oe M.oa M.og

structure Nx where
  M : Mc
  k : Int
  a : Int
  o : Int
  v : Int
  b : Bool

def endM (M : Mc) (e a g : Int) : Nx := ⟨{ M with pl := 4, oe := e, oa := a, og := g }, 0, 0, 0, 0, false⟩

noncomputable def askN (q : Ask) (x : Int) : Int := lkN q.s q.n q.mo (ofS x) (ofL x) (ofH x) (ofO x)
noncomputable def askC (q : Ask) (x : Int) : ClaimRes := claimF (ofS x) (ofL x) (ofH x) (ofO x) q.s (askN q x)

/-- A frontier's word looked at. -/
noncomputable def lookM (q : Ask) (M : Mc) (x : Int) : Nx :=
  if ofFrontB x = false then endM M 240 0 0
  else if q.sp < ofH x then endM M 240 0 0
  else if (askC q x).e ≠ 0 then endM M 184 0 0
  else ⟨{ M with pl := 3, wa := x, ga := bas q.t q.sp q.s + (askC q x).at_, gg := askN q x }, 3, 1, x, frontW (askC q x).s (askC q x).l (askC q x).h (askC q x).o, true⟩

noncomputable def nextM (q : Ask) (M : Mc) (x : Int) : Nx :=
  if M.pl = 1 then ⟨{ M with pl := 2 }, 1, 1, 0, 0, true⟩
  else if M.pl = 2 then lookM q M x
  else if M.pl = 3 then
    if x = M.wa then endM M 0 M.ga M.gg
    else if M.tr = 1 then endM { M with tr := 2 } 185 0 0
    else lookM q { M with tr := 1 } x
  else ⟨M, 0, 0, 0, 0, false⟩

/-- What holds of each machine. -/
def Mc.ok (M : Mc) : Prop := (M.pl = 1 ∨ M.pl = 2 ∨ M.pl = 3 ∨ M.pl = 4) ∧ (M.pl = 3 → M.tr = 0 ∨ M.tr = 1) ∧ (M.pl = 1 ∨ M.pl = 2 → M.tr = 0) ∧ (M.pl ≠ 4 → M.oe = 0 ∧ M.oa = 0 ∧ M.og = 0)

def newMc : Mc := ⟨1, 0, 0, 0, 0, 0, 0, 0⟩

theorem newMc_ok : newMc.ok := by unfold Mc.ok newMc; simp

theorem endM_ok (M : Mc) (e a g : Int) : (endM M e a g).M.ok := by unfold Mc.ok endM; simp

theorem lookM_ok (q : Ask) (M : Mc) (x : Int) (h : M.pl = 2 ∨ M.pl = 3) (ht : M.tr = 0 ∨ M.tr = 1) (ho : M.oe = 0 ∧ M.oa = 0 ∧ M.og = 0) : (lookM q M x).M.ok := by
  unfold lookM
  split
  · exact endM_ok ..
  split
  · exact endM_ok ..
  split
  · exact endM_ok ..
  · unfold Mc.ok; simp; exact ⟨ht, ho⟩

theorem nextM_ok (q : Ask) (M : Mc) (x : Int) (h : M.ok) : (nextM q M x).M.ok := by
  obtain ⟨h1, h2, h3, h4⟩ := h
  unfold nextM
  split
  · rename_i e
    have := h4 (by omega)
    have := h3 (Or.inl e)
    unfold Mc.ok; simp; omega
  split
  · rename_i e
    exact lookM_ok _ _ _ (Or.inl e) (Or.inl (h3 (Or.inr e))) (h4 (by omega))
  split
  · rename_i e
    split
    · exact endM_ok ..
    split
    · exact endM_ok ..
    · exact lookM_ok _ _ _ (Or.inr e) (Or.inr rfl) (h4 (by omega))
  · exact ⟨h1, h2, h3, h4⟩

theorem endC_eq (q : Ask) (M : Mc) (e a g : Int) : ∀ i, i < 15 → endC (M.c q) e a g i = (endM M e a g).M.c q i := fun i hi => by
  have h : i = 0 ∨ i = 1 ∨ i = 2 ∨ i = 3 ∨ i = 4 ∨ i = 5 ∨ i = 6 ∨ i = 7 ∨ i = 8 ∨ i = 9 ∨ i = 10 ∨ i = 11 ∨ i = 12 ∨ i = 13 ∨ i = 14 := by omega
  rcases h with rfl | rfl | rfl | rfl | rfl | rfl | rfl | rfl | rfl | rfl | rfl | rfl | rfl | rfl | rfl <;> rfl

/-- What makes a claim one that may be. -/
def Ask.ok (w : World) (q : Ask) (S : Nat → ByteArray) : Prop := ShOk w q.A q.len S ∧ okPB q.t q.sp q.len S = true ∧ (q.s = 0 ∨ q.s = 1) ∧ asN q.n q.mo = true

theorem Ask.ok_keep {w W : World} {q : Ask} {S : Nat → ByteArray} (h : q.ok w S) (hb : Below w.heap.size w W) : q.ok W S := ⟨h.1.keep hb, h.2⟩

theorem ShOk.grown {w W : World} {A : Option Addr} {len : Nat} {S : Nat → ByteArray} {m : Nat} (H : ShOk w A len S) (hg : w.grownBy W (some m)) (hm : ∀ b o, A = some ⟨b, o, none⟩ → b ≠ m) : ShOk W A len S := fun h => by
  obtain ⟨b, o, rfl, hb, hc⟩ := H h
  exact ⟨b, o, rfl, Nat.lt_of_lt_of_le hb hg.size, fun i hi => (gr_cell hg hb (hm b o rfl) _).trans (hc i hi)⟩

/-- The plan's shapes lie elsewhere than the machine. -/
def Ask.far (q : Ask) (m : Nat) : Prop := ∀ b o, q.A = some ⟨b, o, none⟩ → b ≠ m

theorem Ask.ok_grown {w W : World} {q : Ask} {S : Nat → ByteArray} {m : Nat} (h : q.ok w S) (hg : w.grownBy W (some m)) (hf : q.far m) : q.ok W S := ⟨h.1.grown hg hf, h.2⟩

def Nx.val (r : Nx) : Value := .tuple #[.agg #[.int .i64 r.k, .int .i64 r.a, .int .u64 r.o, .int .u64 r.v], .bool r.b]

theorem ofFrontB_iff {x : Int} : ofFrontB x = true ↔ x / 2 / 8192 / 8192 / 8192 = 0 ∧ rightB (ofS x) (ofL x) (ofH x) (ofO x) = true := by
  unfold ofFrontB; rw [Bool.and_eq_true, decide_eq_true_eq]

theorem askC_bd (q : Ask) (x : Int) (hf : ofFrontB x = true) (h : (askC q x).e = 0) : 0 ≤ (askC q x).at_ ∧ (askC q x).at_ ≤ 4096 := by
  have hr := (rightB_iff.1 (ofFrontB_iff.1 hf).2)
  unfold askC claimF at h ⊢
  split
  · rename_i h1
    rw [if_pos h1] at h
    split
    · split <;> simp <;> omega
    · rename_i h2
      rw [if_neg h2] at h
      simp at h
  · rename_i h1
    rw [if_neg h1] at h
    simp at h

theorem lookM_any (q : Ask) (M : Mc) (x : Int) (m : Nat) (S : Nat → ByteArray) (hlen : q.len ≤ 9223372036854775807) (hS : ∀ i, i < q.len → (S i).size ≤ 9223372036854775807) (w : World) (hq : q.ok w S) (H : IsM w m (M.c q)) (hx0 : 0 ≤ x) (hx : x ≤ 18446744073709551615) :
    Calls Try.prog 38 #[.pointer (some ⟨m, 0, none⟩), .int .u64 x] w fun en w' => en = .returned (lookM q M x).val ∧ McTo w w' m ((lookM q M x).M.c q) := by
  obtain ⟨q1, q2, q3, q4⟩ := hq
  cases hb : ofFrontB x with
  | false =>
    rw [show lookM q M x = endM M 240 0 0 by unfold lookM; rw [if_pos hb]]
    refine (look_240a m _ _ _ _ _ _ _ _ _ _ _ _ _ _ _ _ _ x w H hx0 hx hb).mono ?_
    rintro en w' ⟨rfl, hg, hi⟩
    exact ⟨rfl, hg, hi.congr (endC_eq q M 240 0 0)⟩
  | true =>
    have hF : ofFrontF x = ⟨ofS x, ofL x, ofH x, ofO x, 0⟩ := by unfold ofFrontF; rw [if_pos hb]
    by_cases hgt : q.sp < ofH x
    · rw [show lookM q M x = endM M 240 0 0 by unfold lookM; rw [hb, if_neg (by simp), if_pos hgt]]
      refine (look_240b m _ _ _ _ _ _ _ _ _ _ _ _ _ _ _ _ _ x _ _ _ _ w H hx0 hx hF hgt).mono ?_
      rintro en w' ⟨rfl, hg, hi⟩
      exact ⟨rfl, hg, hi.congr (endC_eq q M 240 0 0)⟩
    · have hp := okPB_iff.1 q2
      have hV : basV q.t q.sp q.s q.len S = bas q.t q.sp q.s := by unfold basV; rw [if_pos ⟨q2, q3⟩]
      have hE : basE q.t q.sp q.s q.len S = 0 := by unfold basE; rw [if_pos q2, if_pos q3]
      have hbas : 0 ≤ bas q.t q.sp q.s ∧ bas q.t q.sp q.s ≤ 10000 := by
        unfold bas
        have h1 := hp.1
        have h2 := hp.2.1
        rcases q3 with e | e <;> rw [e] <;> omega
      by_cases hc : (askC q x).e = 0
      · have hbd := askC_bd q x hb hc
        rw [show lookM q M x = ⟨{ M with pl := 3, wa := x, ga := bas q.t q.sp q.s + (askC q x).at_, gg := askN q x }, 3, 1, x, frontW (askC q x).s (askC q x).l (askC q x).h (askC q x).o, true⟩ by
          unfold lookM; rw [hb, if_neg (by simp), if_neg hgt, if_neg (by simpa using hc)]]
        refine (look_ok m q.t q.sp q.A q.len q.cap q.s q.n q.mo _ _ _ _ _ _ _ _ _ x _ _ _ _ (askC q x).s (askC q x).l (askC q x).h (askC q x).o (askC q x).at_ (askC q x).e _ S hlen hS w q1 H hx0 hx hF (by omega) rfl hV hE (by omega)).mono ?_
        rintro en w' ⟨_, h⟩
        obtain ⟨rfl, hg, hi⟩ := h hc
        exact ⟨rfl, hg, hi⟩
      · rw [show lookM q M x = endM M 184 0 0 by unfold lookM; rw [hb, if_neg (by simp), if_neg hgt, if_pos hc]]
        have hbd : 0 ≤ (askC q x).at_ ∧ (askC q x).at_ ≤ 4096 := by
          unfold askC claimF at hc ⊢
          split
          · rename_i h1
            rw [if_pos h1] at hc
            split
            · rename_i h2
              rw [if_pos h2] at hc
              exact absurd (by split <;> rfl) hc
            · simp
          · simp
        refine (look_ok m q.t q.sp q.A q.len q.cap q.s q.n q.mo _ _ _ _ _ _ _ _ _ x _ _ _ _ (askC q x).s (askC q x).l (askC q x).h (askC q x).o (askC q x).at_ (askC q x).e _ S hlen hS w q1 H hx0 hx hF (by omega) rfl hV hE (by omega)).mono ?_
        rintro en w' ⟨h, _⟩
        obtain ⟨rfl, hg, hi⟩ := h hc
        exact ⟨rfl, hg, hi.congr (endC_eq q M 184 0 0)⟩

/-- A swap's answer. -/
theorem swappedM_any (q : Ask) (M : Mc) (x : Int) (m : Nat) (S : Nat → ByteArray) (hlen : q.len ≤ 9223372036854775807) (hS : ∀ i, i < q.len → (S i).size ≤ 9223372036854775807) (w : World) (hq : q.ok w S) (hfar : q.far m) (H : IsM w m (M.c q)) (hx0 : 0 ≤ x) (hx : x ≤ 18446744073709551615) (h3 : M.pl = 3) (ht : M.tr = 0 ∨ M.tr = 1) :
    Calls Try.prog 39 #[.pointer (some ⟨m, 0, none⟩), .int .u64 x] w fun en w' => en = .returned (nextM q M x).val ∧ McTo w w' m ((nextM q M x).M.c q) := by
  have e0 : nextM q M x = if x = M.wa then endM M 0 M.ga M.gg else if M.tr = 1 then endM { M with tr := 2 } 185 0 0 else lookM q { M with tr := 1 } x := by
    unfold nextM; rw [if_neg (by omega), if_neg (by omega), if_pos h3]
  by_cases h1 : x = M.wa
  · rw [e0, if_pos h1]
    subst h1
    refine (swapped_won m _ _ _ _ _ _ _ _ _ _ M.wa 0 M.ga M.gg _ _ _ w H).mono ?_
    rintro en w' ⟨rfl, hg, hi⟩
    exact ⟨rfl, hg, hi.congr (endC_eq q M 0 M.ga M.gg)⟩
  · rw [e0, if_neg h1]
    by_cases h2 : M.tr = 1
    · rw [if_pos h2]
      refine (swapped_busy m _ _ _ _ _ _ _ _ _ _ _ _ _ _ _ _ _ x w H h1 h2).mono ?_
      rintro en w' ⟨rfl, hg, hi⟩
      exact ⟨rfl, hg, hi.congr (endC_eq q { M with tr := 2 } 185 0 0)⟩
    · rw [if_neg h2]
      refine (swapped_again m _ _ _ _ _ _ _ _ _ _ _ _ _ _ _ _ _ x w H h1 (by omega) _ _ _ _ _ _ (fun W hW hI => ?_))
      exact lookM_any q { M with tr := 1 } x m S hlen hS W (Ask.ok_grown hq hW hfar) hI hx0 hx
end Go.Proofs.Ytnnllhlcpmmcaaa
