/- Package claim: what comes of a machine that is alone, in numbers; the chapter's rows. -/
import Derived.Test.YtnnllhlcpmmcaaaClP
import Derived.Test.YtnnllhlcpmmcaaaClL
import Derived.Test.YtnnllhlcpmmcaaaArM
namespace Go.Proofs.Ytnnllhlcpmmcaaa
set_option linter.unusedVariables false
set_option linter.unusedSimpArgs false
open Go.RowKit

theorem ofFront_of {s l h o : Int} (hr : rightB s l h o = true) : ofFrontB (frontW s l h o) = true ∧ ofS (frontW s l h o) = s ∧ ofL (frontW s l h o) = l ∧ ofH (frontW s l h o) = h ∧ ofO (frontW s l h o) = o := by
  have hb := rightB_iff.1 hr
  have e : frontW s l h o = s + 2 * (l + 8192 * (h + 8192 * o)) := by unfold frontW; rw [if_pos hr]
  have e1 : ofS (frontW s l h o) = s := by rw [e]; unfold ofS; omega
  have e2 : ofL (frontW s l h o) = l := by rw [e]; unfold ofL; omega
  have e3 : ofH (frontW s l h o) = h := by rw [e]; unfold ofH; omega
  have e4 : ofO (frontW s l h o) = o := by rw [e]; unfold ofO; omega
  refine ⟨?_, e1, e2, e3, e4⟩
  rw [ofFrontB_iff, e1, e2, e3, e4]
  exact ⟨by rw [e]; omega, hr⟩

def M2 : Mc := ⟨2, 0, 0, 0, 0, 0, 0, 0⟩

theorem next_new (q : Ask) (x : Int) : nextM q newMc x = ⟨M2, 1, 1, 0, 0, true⟩ := by unfold nextM newMc; rw [if_pos rfl]; rfl
theorem next_two (q : Ask) (x : Int) : nextM q M2 x = lookM q M2 x := by unfold nextM; rw [if_neg (show ¬ M2.pl = 1 by decide), if_pos (show M2.pl = 2 from rfl)]

theorem do_one (n : Nat) (hn : 2 ≤ n) (xs : Nat → Int) : doA n xs 1 1 0 0 = xs 1 ∧ doX n xs 1 1 0 0 = xs := by
  have h : doE n 1 1 0 0 = 0 := by
    unfold doE
    rw [if_pos (by decide), if_neg (by decide), if_neg (by omega)]
  exact ⟨by unfold doA; rw [if_pos ⟨h, .inl rfl⟩]; rfl, by unfold doX; rw [if_neg (by omega)]⟩

theorem do_three (n : Nat) (hn : 2 ≤ n) (xs : Nat → Int) (v : Int) : doA n xs 3 1 (xs 1) v = xs 1 ∧ doX n xs 3 1 (xs 1) v = upd xs 1 v := by
  have h : doE n 3 1 (xs 1) v = 0 := by
    unfold doE
    rw [if_pos (accB_iff.2 (by omega)), if_neg (by decide), if_neg (by omega)]
  exact ⟨by unfold doA; rw [if_pos ⟨h, .inr rfl⟩]; rfl, by unfold doX; rw [if_pos ⟨h, .inr ⟨rfl, rfl⟩⟩]; rfl⟩

/-- A machine alone that gets nothing. -/
theorem alone_no (q : Ask) (n : Nat) (hn : 2 ≤ n) (xs : Nat → Int) (h : (lookM q M2 (xs 1)).b = false) :
    aloneF q n 60 newMc xs 0 0 = ⟨(lookM q M2 (xs 1)).M.oe, (lookM q M2 (xs 1)).M.oa, (lookM q M2 (xs 1)).M.og, 1, (lookM q M2 (xs 1)).M, xs⟩ := by
  rw [show (60 : Nat) = 59 + 1 from rfl, aloneF, next_new]
  simp only [if_true]
  rw [(do_one n hn xs).1, (do_one n hn xs).2]
  rw [show (59 : Nat) = 58 + 1 from rfl, aloneF, next_two, h]
  simp

/-- A machine alone that gets words. -/
theorem alone_yes (q : Ask) (n : Nat) (hn : 2 ≤ n) (xs : Nat → Int) (a N v : Int) (h : lookM q M2 (xs 1) = ⟨⟨3, 0, xs 1, a, N, 0, 0, 0⟩, 3, 1, xs 1, v, true⟩) :
    aloneF q n 60 newMc xs 0 0 = ⟨0, a, N, 2, ⟨4, 0, xs 1, a, N, 0, a, N⟩, upd xs 1 v⟩ := by
  rw [show (60 : Nat) = 59 + 1 from rfl, aloneF, next_new]
  simp only [if_true]
  rw [(do_one n hn xs).1, (do_one n hn xs).2]
  rw [show (59 : Nat) = 58 + 1 from rfl, aloneF, next_two, h]
  simp only [if_true]
  rw [(do_three n hn xs v).1, (do_three n hn xs v).2]
  have e : nextM q ⟨3, 0, xs 1, a, N, 0, 0, 0⟩ (xs 1) = ⟨⟨4, 0, xs 1, a, N, 0, a, N⟩, 0, 0, 0, 0, false⟩ := by
    unfold nextM
    rw [if_neg (show ¬ (3 : Int) = 1 by decide), if_neg (show ¬ (3 : Int) = 2 by decide), if_pos rfl, if_pos rfl]
    rfl
  rw [show (58 : Nat) = 57 + 1 from rfl, aloneF, e]
  simp

/-- The look at a frontier that is right. -/
theorem look_right (q : Ask) (s l h o : Int) (hr : rightB s l h o = true) (hle : h ≤ q.sp) :
    lookM q M2 (frontW s l h o) = (if (claimF s l h o q.s (lkN q.s q.n q.mo s l h o)).e ≠ 0 then endM M2 184 0 0 else
      ⟨⟨3, 0, frontW s l h o, bas q.t q.sp q.s + (claimF s l h o q.s (lkN q.s q.n q.mo s l h o)).at_, lkN q.s q.n q.mo s l h o, 0, 0, 0⟩, 3, 1, frontW s l h o,
        frontW (claimF s l h o q.s (lkN q.s q.n q.mo s l h o)).s (claimF s l h o q.s (lkN q.s q.n q.mo s l h o)).l (claimF s l h o q.s (lkN q.s q.n q.mo s l h o)).h (claimF s l h o q.s (lkN q.s q.n q.mo s l h o)).o, true⟩) := by
  obtain ⟨e0, e1, e2, e3, e4⟩ := ofFront_of hr
  unfold lookM askC askN
  rw [e1, e2, e3, e4, e0, if_neg (by simp), if_neg (by omega)]
  rfl

theorem claim_yes {s l h o sp n : Int} (hr : rightB s l h o = true) (hs : sp = 0 ∨ sp = 1) (hf : 1 ≤ n ∧ n ≤ h - l - o) :
    claimF s l h o sp n = if sp = s then ⟨s, l + n, h, o, l, 0⟩ else ⟨s, l, h, o + n, o, 0⟩ := by
  unfold claimF
  rw [if_pos (by simp only [Bool.and_eq_true, decide_eq_true_eq]; exact ⟨⟨hr, inB1_iff.2 (by omega)⟩, hf.1⟩), if_pos (fitsB_iff.2 ⟨hr, hf⟩)]

theorem claim_no {s l h o sp n : Int} (hr : rightB s l h o = true) (hs : sp = 0 ∨ sp = 1) (h1 : 1 ≤ n) (hf : h - l - o < n) :
    claimF s l h o sp n = ⟨0, 0, 0, 0, 0, 4⟩ := by
  unfold claimF
  rw [if_pos (by simp only [Bool.and_eq_true, decide_eq_true_eq]; exact ⟨⟨hr, inB1_iff.2 (by omega)⟩, h1⟩), if_neg (fun h => by have := (fitsB_iff.1 h).2; omega)]

/-- A claim that fits, alone. -/
theorem alone_fit (q : Ask) (n : Nat) (hn : 2 ≤ n) (xs : Nat → Int) (s l h o N : Int) (hx : xs 1 = frontW s l h o) (hr : rightB s l h o = true) (hle : h ≤ q.sp) (hs : q.s = 0 ∨ q.s = 1) (hN : lkN q.s q.n q.mo s l h o = N) (hf : 1 ≤ N ∧ N ≤ h - l - o) :
    aloneF q n 60 newMc xs 0 0 = ⟨0, bas q.t q.sp q.s + (if q.s = s then l else o), N, 2, ⟨4, 0, xs 1, bas q.t q.sp q.s + (if q.s = s then l else o), N, 0, bas q.t q.sp q.s + (if q.s = s then l else o), N⟩,
      upd xs 1 (if q.s = s then frontW s (l + N) h o else frontW s l h (o + N))⟩ := by
  refine alone_yes q n hn xs _ _ _ ?_
  rw [hx, look_right q s l h o hr hle, hN, claim_yes hr hs hf]
  by_cases e : q.s = s
  · simp [e]
  · simp [e]

/-- A claim that does not fit, alone. -/
theorem alone_unfit (q : Ask) (n : Nat) (hn : 2 ≤ n) (xs : Nat → Int) (s l h o N : Int) (hx : xs 1 = frontW s l h o) (hr : rightB s l h o = true) (hle : h ≤ q.sp) (hs : q.s = 0 ∨ q.s = 1) (hN : lkN q.s q.n q.mo s l h o = N) (h1 : 1 ≤ N) (hf : h - l - o < N) :
    aloneF q n 60 newMc xs 0 0 = ⟨184, 0, 0, 1, ⟨4, 0, 0, 0, 0, 184, 0, 0⟩, xs⟩ := by
  have e : lookM q M2 (xs 1) = endM M2 184 0 0 := by rw [hx, look_right q s l h o hr hle, hN, claim_no hr hs h1 hf]; simp
  rw [alone_no q n hn xs (by rw [e]; rfl), e]
  rfl
end Go.Proofs.Ytnnllhlcpmmcaaa
