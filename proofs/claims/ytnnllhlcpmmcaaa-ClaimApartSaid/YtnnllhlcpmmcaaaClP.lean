/- The reference of package claim beside the program: both do what nextM says. -/
import Derived.Test.YtnnllhlcpmmcaaaClO
namespace Go.Proofs.Ytnnllhlcpmmcaaa
set_option linter.unusedVariables false
set_option linter.unusedSimpArgs false
open Go.RowKit

/-- The reference's machine. -/
def rcM (q : Ask) (M : Mc) : Value := .agg #[.int .i64 q.t, .int .i64 q.sp, .slice q.A q.len q.cap, .int .i64 q.s, .int .i64 q.n, .int .i64 q.mo, .int .i64 (M.pl - 1), .int .i64 M.tr, .int .u64 M.wa, .int .i64 M.ga, .int .i64 M.gg, .int .i64 M.oe, .int .i64 M.oa, .int .i64 M.og]

/-- What the reference's step tells. -/
def Nx.rval (q : Ask) (r : Nx) : Value := .tuple #[rcM q r.M, .agg #[.int .i64 r.k, .int .i64 r.a, .int .u64 r.o, .int .u64 r.v], .bool r.b]

def Ask.fine (q : Ask) (S : Nat → ByteArray) : Prop := okPB q.t q.sp q.len S = true ∧ (q.s = 0 ∨ q.s = 1) ∧ asN q.n q.mo = true

theorem refLookM_any (q : Ask) (M : Mc) (x pl : Int) (S : Nat → ByteArray) (w : World) (hq : q.fine S) (hx0 : 0 ≤ x) (hx : x ≤ 18446744073709551615) :
    Calls Try.prog 41 #[.agg #[.int .i64 q.t, .int .i64 q.sp, .slice q.A q.len q.cap, .int .i64 q.s, .int .i64 q.n, .int .i64 q.mo, .int .i64 pl, .int .i64 M.tr, .int .u64 M.wa, .int .i64 M.ga, .int .i64 M.gg, .int .i64 M.oe, .int .i64 M.oa, .int .i64 M.og], .int .u64 x] w
      fun en w' => en = .returned ((lookM q M x).rval q) ∧ Below w.heap.size w w' := by
  obtain ⟨q2, q3, q4⟩ := hq
  cases hb : ofFrontB x with
  | false =>
    rw [show lookM q M x = endM M 240 0 0 by unfold lookM; rw [if_pos hb]]
    exact refLook_a _ _ _ _ _ _ _ _ _ _ _ _ _ _ _ _ x w hx0 hx hb
  | true =>
    have hF : ofFrontF x = ⟨ofS x, ofL x, ofH x, ofO x, 0⟩ := by unfold ofFrontF; rw [if_pos hb]
    by_cases hgt : q.sp < ofH x
    · rw [show lookM q M x = endM M 240 0 0 by unfold lookM; rw [hb, if_neg (by simp), if_pos hgt]]
      exact refLook_b _ _ _ _ _ _ _ _ _ _ _ _ _ _ _ _ x _ _ _ _ w hx0 hx hF hgt
    · have hp := okPB_iff.1 q2
      have hbas : 0 ≤ bas q.t q.sp q.s ∧ bas q.t q.sp q.s ≤ 10000 := by
        unfold bas
        have h1 := hp.1
        have h2 := hp.2.1
        rcases q3 with e | e <;> rw [e] <;> omega
      by_cases hc : (askC q x).e = 0
      · have hbd := askC_bd q x hb hc
        rw [show lookM q M x = ⟨{ M with pl := 3, wa := x, ga := bas q.t q.sp q.s + (askC q x).at_, gg := askN q x }, 3, 1, x, frontW (askC q x).s (askC q x).l (askC q x).h (askC q x).o, true⟩ by
          unfold lookM; rw [hb, if_neg (by simp), if_neg hgt, if_neg (by simpa using hc)]]
        exact refLook_d q.t q.sp q.A q.len q.cap q.s q.n q.mo _ _ _ _ _ _ _ _ x _ _ _ _ (askC q x).s (askC q x).l (askC q x).h (askC q x).o (askC q x).at_ (askC q x).e _ w hx0 hx hF (by omega) rfl rfl hc ⟨hp.1, hp.2.1⟩ q3 (by omega)
      · rw [show lookM q M x = endM M 184 0 0 by unfold lookM; rw [hb, if_neg (by simp), if_neg hgt, if_pos hc]]
        exact refLook_c q.t q.sp q.A q.len q.cap q.s q.n q.mo _ _ _ _ _ _ _ _ x _ _ _ _ (askC q x).s (askC q x).l (askC q x).h (askC q x).o (askC q x).at_ (askC q x).e _ w hx0 hx hF (by omega) rfl rfl hc

/-- What the reference's machine tells next. -/
theorem refNextM_any (q : Ask) (M : Mc) (x : Int) (S : Nat → ByteArray) (w : World) (hq : q.fine S) (hM : M.ok) (hx0 : 0 ≤ x) (hx : x ≤ 18446744073709551615) :
    Calls Try.prog 16 #[rcM q M, .int .u64 x] w fun en w' => en = .returned ((nextM q M x).rval q) ∧ Below w.heap.size w w' := by
  obtain ⟨h1, h2, h3, h4⟩ := hM
  obtain ⟨pl, tr, wa, ga, gg, oe, oa, og⟩ := M
  simp only at h1 h2 h3 h4
  rcases h1 with e | e | e | e
  · subst e
    exact refNext_0 _ _ _ _ _ _ _ _ 0 _ _ _ _ _ _ _ x w
  · subst e
    exact refNext_1 _ _ _ _ _ _ _ _ 0 _ _ _ _ _ _ _ x _ _ _ _ _ _ _ _ _ _ _ _ w _ (fun W _ => refLookM_any q ⟨2, tr, wa, ga, gg, oe, oa, og⟩ x 1 S W hq hx0 hx)
  · subst e
    by_cases hxw : x = wa
    · rw [show nextM q ⟨3, tr, wa, ga, gg, oe, oa, og⟩ x = endM ⟨3, tr, wa, ga, gg, oe, oa, og⟩ 0 ga gg by unfold nextM; rw [if_neg (show ¬ (3 : Int) = 1 by decide), if_neg (show ¬ (3 : Int) = 2 by decide), if_pos rfl, if_pos hxw]]
      exact refNext_won _ _ _ _ _ _ _ _ 0 _ _ _ _ _ _ _ x w hxw
    · rcases h2 rfl with e | e
      · subst e
        rw [show nextM q ⟨3, 0, wa, ga, gg, oe, oa, og⟩ x = lookM q ⟨3, 1, wa, ga, gg, oe, oa, og⟩ x by unfold nextM; rw [if_neg (show ¬ (3 : Int) = 1 by decide), if_neg (show ¬ (3 : Int) = 2 by decide), if_pos rfl, if_neg hxw, if_neg (show ¬ (0 : Int) = 1 by decide)]]
        exact refNext_again _ _ _ _ _ _ _ _ 0 0 _ _ _ _ _ _ x _ _ _ _ _ _ _ _ _ _ _ _ w hxw _ (fun W _ => refLookM_any q ⟨3, 1, wa, ga, gg, oe, oa, og⟩ x 2 S W hq hx0 hx)
      · subst e
        rw [show nextM q ⟨3, 1, wa, ga, gg, oe, oa, og⟩ x = endM ⟨3, 2, wa, ga, gg, oe, oa, og⟩ 185 0 0 by unfold nextM; rw [if_neg (show ¬ (3 : Int) = 1 by decide), if_neg (show ¬ (3 : Int) = 2 by decide), if_pos rfl, if_neg hxw, if_pos rfl]]
        exact refNext_busy _ _ _ _ _ _ _ _ 0 0 _ _ _ _ _ _ x w hxw
  · subst e
    exact refNext_3 _ _ _ _ _ _ _ _ 0 _ _ _ _ _ _ _ x w

/-- Out: of a machine whatever. -/
theorem outM_any (q : Ask) (M : Mc) (m : Nat) (w : World) (H : IsM w m (M.c q)) (hM : M.ok) :
    Calls Try.prog 17 #[.pointer (some ⟨m, 0, none⟩)] w fun en w' => en = .returned (.tuple #[.agg #[.int .i64 M.oe, .int .i64 M.oa, .int .i64 M.og], .bool (M.pl - 1 == 3)]) ∧ Below w.heap.size w w' := by
  by_cases h : M.pl = 4
  · rw [show (M.pl - 1 == 3) = true by rw [h]; rfl]
    exact out_over m _ _ _ _ w H (show Value.int .i64 M.pl = _ by rw [h]) rfl rfl rfl
  · have ho := hM.2.2.2 h
    rw [show (M.pl - 1 == 3) = false by simp; omega, ho.1, ho.2.1, ho.2.2]
    exact out_not m _ M.pl w H rfl h
end Go.Proofs.Ytnnllhlcpmmcaaa
