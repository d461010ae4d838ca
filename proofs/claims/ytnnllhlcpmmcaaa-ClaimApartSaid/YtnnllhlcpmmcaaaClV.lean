/- Package claim: machines over one arena, in numbers: no two of them get a word together. -/
import Derived.Test.YtnnllhlcpmmcaaaClU
namespace Go.Proofs.Ytnnllhlcpmmcaaa
set_option linter.unusedVariables false
set_option linter.unusedSimpArgs false
open Go.RowKit

/-- A frontier's word of a space of sp words, in space 0. -/
def Rt (sp x : Int) : Prop := ofFrontB x = true ∧ ofS x = 0 ∧ ofH x = sp

theorem Rt.right {sp x : Int} (h : Rt sp x) : rightB 0 (ofL x) sp (ofO x) = true := by
  have := (ofFrontB_iff.1 h.1).2
  rwa [h.2.1, h.2.2] at this

theorem Rt.of {l sp o : Int} (h : rightB 0 l sp o = true) : Rt sp (frontW 0 l sp o) ∧ ofL (frontW 0 l sp o) = l ∧ ofO (frontW 0 l sp o) = o := by
  obtain ⟨e0, e1, e2, e3, e4⟩ := ofFront_of h
  exact ⟨⟨e0, e1, e3⟩, e2, e4⟩

/-- The words behind a claim of gg words in space s. -/
def Nxt (s x y gg : Int) : Prop := (s = 0 ∧ ofL y = ofL x + gg ∧ ofO y = ofO x) ∨ (s ≠ 0 ∧ ofO y = ofO x + gg ∧ ofL y = ofL x)

/-- What a claim got at the win k. -/
def Won (q : Ask) (W : Nat → Int) (k : Nat) (ga gg : Int) : Prop :=
  ga = bas q.t q.sp q.s + (if q.s = 0 then ofL (W k) else ofO (W k)) ∧ 1 ≤ gg ∧ Nxt q.s (W k) (W (k + 1)) gg

theorem look_cases (q : Ask) (M : Mc) (sp x : Int) (hsp : q.sp = sp) (hs : q.s = 0 ∨ q.s = 1) (hn : asN q.n q.mo = true) (hx : Rt sp x) :
    (∃ K v, 1 ≤ K ∧ Rt sp v ∧ Nxt q.s x v K ∧ lookM q M x = ⟨{ M with pl := 3, wa := x, ga := bas q.t q.sp q.s + (if q.s = 0 then ofL x else ofO x), gg := K }, 3, 1, x, v, true⟩) ∨
    (lookM q M x = endM M 184 0 0 ∧ fitsB 0 (ofL x) sp (ofO x) q.n = false) := by
  have hr := hx.right
  have hb := rightB_iff.1 hr
  have hn3 : (1 ≤ q.n ∧ q.n ≤ 4096) ∧ (q.mo = 0 ∨ q.n ≤ q.mo ∧ q.mo ≤ 4096) := by simpa [asN] using hn
  have e0 : lookM q M x = if (askC q x).e ≠ 0 then endM M 184 0 0 else ⟨{ M with pl := 3, wa := x, ga := bas q.t q.sp q.s + (askC q x).at_, gg := askN q x }, 3, 1, x, frontW (askC q x).s (askC q x).l (askC q x).h (askC q x).o, true⟩ := by
    unfold lookM
    rw [hx.1, if_neg (by simp), if_neg (by rw [hx.2.2]; omega)]
  have eN : askN q x = lkN q.s q.n q.mo 0 (ofL x) sp (ofO x) := by unfold askN; rw [hx.2.1, hx.2.2]
  have eC : askC q x = claimF 0 (ofL x) sp (ofO x) q.s (lkN q.s q.n q.mo 0 (ofL x) sp (ofO x)) := by unfold askC; rw [eN, hx.2.1, hx.2.2]
  obtain ⟨T, hT, hW⟩ := lk_ways q.s q.n q.mo 0 (ofL x) sp (ofO x)
  rw [e0, eC, eN]
  generalize lkN q.s q.n q.mo 0 (ofL x) sp (ofO x) = K at *
  have h1 : 1 ≤ K := by
    rw [hT]
    rcases hW with ⟨q1, q2⟩ | ⟨q1, q2, q3⟩ | ⟨q1, q2, q3⟩
    · rw [q2]; simp; omega
    · rw [q3]; simp; omega
    · split <;> omega
  by_cases hf : K ≤ sp - ofL x - ofO x
  · left
    rw [claim_yes hr hs ⟨h1, hf⟩]
    by_cases e : q.s = 0
    · have hr2 : rightB 0 (ofL x + K) sp (ofO x) = true := rightB_iff.2 (by omega)
      obtain ⟨r1, r2, r3⟩ := Rt.of hr2
      refine ⟨K, frontW 0 (ofL x + K) sp (ofO x), h1, r1, .inl ⟨e, r2, r3⟩, ?_⟩
      simp [e]
    · have hr2 : rightB 0 (ofL x) sp (ofO x + K) = true := rightB_iff.2 (by omega)
      obtain ⟨r1, r2, r3⟩ := Rt.of hr2
      refine ⟨K, frontW 0 (ofL x) sp (ofO x + K), h1, r1, .inr ⟨e, r3, r2⟩, ?_⟩
      simp [e]
  · right
    rw [claim_no hr hs h1 (by omega)]
    refine ⟨by simp, ?_⟩
    have hKn : K = q.n := by
      rw [hT]
      rcases hW with ⟨q1, q2⟩ | ⟨q1, q2, q3⟩ | ⟨q1, q2, q3⟩
      · rw [q2]; simp
      · rw [q3]; simp
      · cases T
        · simp
        · exfalso
          rw [if_pos rfl] at hT
          have := (fitsB_iff.1 q3).2
          omega
    rw [Bool.eq_false_iff]
    intro h
    have := (fitsB_iff.1 h).2
    omega

/-- The words of the frontier, win by win. -/
def GI (sp c0 : Int) (W : Nat → Int) (wi : Nat) (x1 : Int) : Prop :=
  (∀ k, k ≤ wi → Rt sp (W k)) ∧ (∀ k, k < wi → ofL (W k) ≤ ofL (W (k + 1)) ∧ ofO (W k) ≤ ofO (W (k + 1))) ∧ x1 = W wi ∧ ofL (W 0) = c0

theorem GI.mono {sp c0 x1 : Int} {W : Nat → Int} {wi : Nat} (h : GI sp c0 W wi x1) : ∀ d k, k + d ≤ wi → ofL (W k) ≤ ofL (W (k + d)) ∧ ofO (W k) ≤ ofO (W (k + d))
  | 0, _, _ => ⟨Int.le_refl _, Int.le_refl _⟩
  | d + 1, k, hk => by
    have h1 := GI.mono h d k (by omega)
    have h2 := h.2.1 (k + d) (by omega)
    rw [show k + (d + 1) = k + d + 1 by omega]
    exact ⟨Int.le_trans h1.1 h2.1, Int.le_trans h1.2 h2.2⟩
theorem GI.le {sp c0 x1 : Int} {W : Nat → Int} {wi : Nat} (h : GI sp c0 W wi x1) {j k : Nat} (hjk : j ≤ k) (hk : k ≤ wi) : ofL (W j) ≤ ofL (W k) ∧ ofO (W j) ≤ ofO (W k) := by
  have := h.mono (k - j) j (by omega)
  rwa [show j + (k - j) = k by omega] at this

/-- What holds of one machine. -/
def MI (q : Ask) (W : Nat → Int) (by_ : Nat → Nat) (j wi : Nat) (M : Mc) (la : Int) (be : Nat) (td : Bool) : Prop :=
  M.ok ∧ W64 la ∧ (M.pl = 1 → td = false) ∧ (M.pl ≠ 1 → td = true ∧ be ≤ wi) ∧
  (M.pl = 2 → ∃ k, be ≤ k ∧ k ≤ wi ∧ la = W k) ∧
  (M.pl = 3 → (la = M.wa ∧ ∃ k, k < wi ∧ by_ k = j ∧ Won q W k M.ga M.gg) ∨ (la ≠ M.wa ∧ ∃ k : Nat, (be : Int) + M.tr + 1 ≤ k ∧ k ≤ wi ∧ la = W k)) ∧
  (M.pl = 4 → M.oe = 0 → ∃ k, k < wi ∧ by_ k = j ∧ Won q W k M.oa M.og)

theorem Won.more {q : Ask} {W W' : Nat → Int} {k wi : Nat} {ga gg : Int} (h : Won q W k ga gg) (hk : k < wi) (hW : ∀ i, i ≤ wi → W' i = W i) : Won q W' k ga gg := by
  unfold Won at h ⊢
  rw [hW k (by omega), hW (k + 1) (by omega)]
  exact h

theorem MI.more {q : Ask} {W W' : Nat → Int} {b b' : Nat → Nat} {j wi wi' : Nat} {M : Mc} {la : Int} {be : Nat} {td : Bool} (h : MI q W b j wi M la be td) (hle : wi ≤ wi') (hW : ∀ i, i ≤ wi → W' i = W i) (hb : ∀ i, i < wi → b' i = b i) : MI q W' b' j wi' M la be td := by
  obtain ⟨h1, h2, h3, h4, h5, h6, h7⟩ := h
  refine ⟨h1, h2, h3, fun e => ⟨(h4 e).1, by have := (h4 e).2; omega⟩, fun e => ?_, fun e => ?_, fun e e' => ?_⟩
  · obtain ⟨k, a, b, c⟩ := h5 e
    exact ⟨k, a, by omega, by rw [hW k b]; exact c⟩
  · rcases h6 e with ⟨a, k, c, d, f⟩ | ⟨a, k, c, d, f⟩
    · exact .inl ⟨a, k, by omega, by rw [hb k c]; exact d, f.more c hW⟩
    · exact .inr ⟨a, k, c, by omega, by rw [hW k d]; exact f⟩
  · obtain ⟨k, c, d, f⟩ := h7 e e'
    exact ⟨k, by omega, by rw [hb k c]; exact d, f.more c hW⟩

theorem MI.start (q : Ask) (W : Nat → Int) (b : Nat → Nat) (j wi be : Nat) : MI q W b j wi newMc 0 be false := by
  refine ⟨newMc_ok, w64_0, fun _ => rfl, fun h => absurd rfl h, fun h => ?_, fun h => ?_, fun h => ?_⟩
  · exact absurd h (by decide)
  · exact absurd h (by decide)
  · exact absurd h (by decide)

/-- The word of a machine that looks is a frontier's. -/
theorem MI.rt {q : Ask} {sp c0 x1 : Int} {W : Nat → Int} {b : Nat → Nat} {j wi : Nat} {M : Mc} {la : Int} {be : Nat} {td : Bool} (h : MI q W b j wi M la be td) (g : GI sp c0 W wi x1) (h2 : M.pl = 2 ∨ (M.pl = 3 ∧ la ≠ M.wa)) : Rt sp la := by
  rcases h2 with e | ⟨e, hne⟩
  · obtain ⟨k, _, hk, rfl⟩ := h.2.2.2.2.1 e
    exact g.1 k hk
  · rcases h.2.2.2.2.2.1 e with ⟨a, _⟩ | ⟨_, k, _, hk, rfl⟩
    · exact absurd a hne
    · exact g.1 k hk

theorem endM_MI {q : Ask} {W : Nat → Int} {b : Nat → Nat} {j wi : Nat} {M M0 : Mc} {la : Int} {be : Nat} {td : Bool} {e a g : Int} (h : MI q W b j wi M0 la be td) (h1 : M0.pl ≠ 1) (he : e = 0 → ∃ k, k < wi ∧ b k = j ∧ Won q W k a g) : MI q W b j wi (endM M e a g).M la be td :=
  ⟨endM_ok .., h.2.1, fun h => absurd h (show ¬ (4 : Int) = 1 by decide), fun _ => h.2.2.2.1 h1, fun h => absurd h (show ¬ (4 : Int) = 2 by decide), fun h => absurd h (show ¬ (4 : Int) = 3 by decide), fun _ h => he h⟩

/-- A machine that ends. -/
theorem step_end {q : Ask} {sp c0 x1 : Int} {W : Nat → Int} {b : Nat → Nat} {j wi : Nat} {M : Mc} {la : Int} {be : Nat} {td : Bool} (hsp : q.sp = sp) (hs : q.s = 0 ∨ q.s = 1) (hn : asN q.n q.mo = true) (h : MI q W b j wi M la be td) (g : GI sp c0 W wi x1) (h4 : M.pl ≠ 4) (hb : (nextM q M la).b = false) :
    MI q W b j wi (nextM q M la).M la be td ∧ (nextM q M la).M.pl = 4 ∧ ((nextM q M la).M.oe = 185 → 2 ≤ (wi : Int) - be) ∧ ((nextM q M la).M.oe = 184 → fitsB (ofFrontF la).s (ofFrontF la).l (ofFrontF la).h (ofFrontF la).o q.n = false) ∧ (nextM q M la).M.oe ≠ 240 := by
  have hok := h.1
  obtain ⟨p1, p2, p3, p4⟩ := hok
  have hmem : ∀ M' : Mc, M.pl ≠ 1 → Rt sp la → (lookM q M' la).b = false → fitsB 0 (ofL la) sp (ofO la) q.n = false → lookM q M' la = endM M' 184 0 0 →
      MI q W b j wi (lookM q M' la).M la be td ∧ (lookM q M' la).M.pl = 4 ∧ ((lookM q M' la).M.oe = 185 → 2 ≤ (wi : Int) - be) ∧ ((lookM q M' la).M.oe = 184 → fitsB (ofFrontF la).s (ofFrontF la).l (ofFrontF la).h (ofFrontF la).o q.n = false) ∧ (lookM q M' la).M.oe ≠ 240 := by
    intro M' h1 hrt _ hfit e
    rw [e]
    refine ⟨endM_MI h h1 (fun h => absurd h (by decide)), rfl, fun h => absurd h (show ¬ (184 : Int) = 185 by decide), fun _ => ?_, show ¬ (184 : Int) = 240 by decide⟩
    have e1 : ofFrontF la = ⟨0, ofL la, sp, ofO la, 0⟩ := by unfold ofFrontF; rw [if_pos hrt.1, hrt.2.1, hrt.2.2]
    rw [e1]
    exact hfit
  rcases p1 with e | e | e | e
  · rw [show nextM q M la = ⟨{ M with pl := 2 }, 1, 1, 0, 0, true⟩ by unfold nextM; rw [if_pos e]] at hb
    cases hb
  · have en : nextM q M la = lookM q M la := by unfold nextM; rw [if_neg (by omega), if_pos e]
    rw [en] at hb ⊢
    have hrt := h.rt g (.inl e)
    rcases look_cases q M sp la hsp hs hn hrt with ⟨K, v, _, _, _, el⟩ | ⟨el, hfit⟩
    · rw [el] at hb; cases hb
    · exact hmem M (by omega) hrt hb hfit el
  · by_cases hx : la = M.wa
    · have en : nextM q M la = endM M 0 M.ga M.gg := by unfold nextM; rw [if_neg (by omega), if_neg (by omega), if_pos e, if_pos hx]
      rw [en]
      refine ⟨endM_MI h (by omega) (fun _ => ?_), rfl, fun h => absurd h (show ¬ (0 : Int) = 185 by decide), fun h => absurd h (show ¬ (0 : Int) = 184 by decide), show ¬ (0 : Int) = 240 by decide⟩
      rcases h.2.2.2.2.2.1 e with ⟨_, k, c, d, f⟩ | ⟨a, _⟩
      · exact ⟨k, c, d, f⟩
      · exact absurd hx a
    · by_cases ht : M.tr = 1
      · have en : nextM q M la = endM { M with tr := 2 } 185 0 0 := by unfold nextM; rw [if_neg (by omega), if_neg (by omega), if_pos e, if_neg hx, if_pos ht]
        rw [en]
        refine ⟨endM_MI h (by omega) (fun h => absurd h (by decide)), rfl, fun _ => ?_, fun h => absurd h (show ¬ (185 : Int) = 184 by decide), show ¬ (185 : Int) = 240 by decide⟩
        rcases h.2.2.2.2.2.1 e with ⟨a, _⟩ | ⟨_, k, c, d, _⟩
        · exact absurd a hx
        · omega
      · have en : nextM q M la = lookM q { M with tr := 1 } la := by unfold nextM; rw [if_neg (by omega), if_neg (by omega), if_pos e, if_neg hx, if_neg ht]
        rw [en] at hb ⊢
        have hrt := h.rt g (.inr ⟨e, hx⟩)
        rcases look_cases q { M with tr := 1 } sp la hsp hs hn hrt with ⟨K, v, _, _, _, el⟩ | ⟨el, hfit⟩
        · rw [el] at hb; cases hb
        · exact hmem _ (by omega) hrt hb hfit el
  · exact absurd e h4

/-- A machine that tells an access: what it is, and what holds behind it, the access done. -/
theorem step_told {q : Ask} {sp c0 : Int} {W : Nat → Int} {b : Nat → Nat} {j wi N : Nat} {M : Mc} {la : Int} {be : Nat} {td : Bool} {xs : Nat → Int} (hN : 2 ≤ N) (hsp : q.sp = sp) (hs : q.s = 0 ∨ q.s = 1) (hn : asN q.n q.mo = true) (h : MI q W b j wi M la be td) (g : GI sp c0 W wi (xs 1)) (h64 : All64 N xs) (r : Nx) (hr : nextM q M la = r) (hb : r.b = true) :
    ((r.k = 1 ∧ doA N xs r.k r.a r.o r.v = xs 1 ∧ doX N xs r.k r.a r.o r.v = xs ∧ MI q W b j wi r.M (xs 1) wi true ∧ td = false)) ∨
    (r.k = 3 ∧ td = true ∧ doA N xs r.k r.a r.o r.v = xs 1 ∧
      ((xs 1 = r.o ∧ doX N xs r.k r.a r.o r.v = upd xs 1 r.v ∧ ∃ W' b', (∀ i, i ≤ wi → W' i = W i) ∧ (∀ i, i < wi → b' i = b i) ∧ GI sp c0 W' (wi + 1) r.v ∧ MI q W' b' j (wi + 1) r.M (xs 1) be true) ∨
       (xs 1 ≠ r.o ∧ doX N xs r.k r.a r.o r.v = xs ∧ MI q W b j wi r.M (xs 1) be true))) := by
  subst hr
  have hok := h.1
  obtain ⟨p1, p2, p3, p4⟩ := hok
  have h1x : W64 (xs 1) := h64 1 (by omega)
  have look : ∀ M' : Mc, M'.ok ∨ True → (M'.tr = 0 ∨ M'.tr = 1) → (M'.oe = 0 ∧ M'.oa = 0 ∧ M'.og = 0) → M.pl ≠ 1 → Rt sp la → (∃ k : Nat, (be : Int) + M'.tr ≤ k ∧ k ≤ wi ∧ la = W k) → (lookM q M' la).b = true →
      ((lookM q M' la).k = 3 ∧ td = true ∧ doA N xs (lookM q M' la).k (lookM q M' la).a (lookM q M' la).o (lookM q M' la).v = xs 1 ∧
      ((xs 1 = (lookM q M' la).o ∧ doX N xs (lookM q M' la).k (lookM q M' la).a (lookM q M' la).o (lookM q M' la).v = upd xs 1 (lookM q M' la).v ∧ ∃ W' b', (∀ i, i ≤ wi → W' i = W i) ∧ (∀ i, i < wi → b' i = b i) ∧ GI sp c0 W' (wi + 1) (lookM q M' la).v ∧ MI q W' b' j (wi + 1) (lookM q M' la).M (xs 1) be true) ∨
       (xs 1 ≠ (lookM q M' la).o ∧ doX N xs (lookM q M' la).k (lookM q M' la).a (lookM q M' la).o (lookM q M' la).v = xs ∧ MI q W b j wi (lookM q M' la).M (xs 1) be true))) := by
    intro M' _ ht ho h1 hrt hk hb
    obtain ⟨k, hk1, hk2, hk3⟩ := hk
    obtain ⟨htd, hbe⟩ := h.2.2.2.1 h1
    rcases look_cases q M' sp la hsp hs hn hrt with ⟨K, v, hK, hv, hnx, el⟩ | ⟨el, _⟩
    · have hok' : (lookM q M' la).M.ok := by rw [el]; unfold Mc.ok; simp; exact ⟨ht, ho⟩
      rw [el] at hok' ⊢
      have hE : doE N 3 1 la v = 0 := by
        unfold doE
        rw [if_pos (accB_iff.2 (by omega)), if_neg (by decide), if_neg (by omega)]
      have hA : doA N xs 3 1 la v = xs 1 := by unfold doA; rw [if_pos ⟨hE, .inr rfl⟩]; rfl
      refine ⟨rfl, htd, hA, ?_⟩
      by_cases hx : xs 1 = la
      · left
        obtain ⟨W', w1, w2⟩ : ∃ W' : Nat → Int, (∀ i, i ≤ wi → W' i = W i) ∧ W' (wi + 1) = v := ⟨fun i => if i = wi + 1 then v else W i, fun i hi => if_neg (by omega), if_pos rfl⟩
        obtain ⟨b', b1, b2⟩ : ∃ b' : Nat → Nat, (∀ i, i < wi → b' i = b i) ∧ b' wi = j := ⟨fun i => if i = wi then j else b i, fun i hi => if_neg (by omega), if_pos rfl⟩
        have ew : W wi = la := by rw [← g.2.2.1, hx]
        refine ⟨hx, by unfold doX; rw [if_pos ⟨hE, .inr ⟨rfl, hx⟩⟩]; rfl, W', b', w1, b1, ?_, ?_⟩
        · refine ⟨fun i hi => ?_, fun i hi => ?_, w2.symm, by rw [w1 0 (by omega)]; exact g.2.2.2⟩
          · by_cases e : i = wi + 1
            · rw [e, w2]; exact hv
            · rw [w1 i (by omega)]; exact g.1 i (by omega)
          · rw [w1 i (by omega)]
            by_cases e : i = wi
            · subst e
              rw [w2, ew]
              rcases hnx with ⟨_, e1, e2⟩ | ⟨_, e1, e2⟩ <;> omega
            · rw [w1 (i + 1) (by omega)]
              exact g.2.1 i (by omega)
        · refine ⟨hok', h1x, fun h => absurd h (show ¬ (3 : Int) = 1 by decide), fun _ => ⟨rfl, by omega⟩, fun h => absurd h (show ¬ (3 : Int) = 2 by decide), fun _ => .inl ⟨hx, wi, by omega, b2, ?_⟩, fun h => absurd h (show ¬ (3 : Int) = 4 by decide)⟩
          unfold Won
          rw [w1 wi (Nat.le_refl _), w2, ew]
          exact ⟨rfl, hK, hnx⟩
      · right
        refine ⟨hx, by unfold doX; rw [if_neg (by rintro ⟨_, h | h⟩; exact absurd h (show ¬ (3 : Int) = 2 by decide); exact hx h.2)], hok', h1x, fun h => absurd h (show ¬ (3 : Int) = 1 by decide), fun _ => ⟨rfl, hbe⟩, fun h => absurd h (show ¬ (3 : Int) = 2 by decide), fun _ => .inr ⟨hx, wi, ?_, Nat.le_refl _, g.2.2.1⟩, fun h => absurd h (show ¬ (3 : Int) = 4 by decide)⟩
        have hne : k ≠ wi := fun e => hx (by rw [g.2.2.1, hk3, e])
        show (be : Int) + M'.tr + 1 ≤ wi
        omega
    · rw [el] at hb; cases hb
  rcases p1 with e | e | e | e
  · left
    have en : nextM q M la = ⟨{ M with pl := 2 }, 1, 1, 0, 0, true⟩ := by unfold nextM; rw [if_pos e]
    rw [en]
    have ht := p3 (.inl e)
    have ho := p4 (by omega)
    refine ⟨rfl, (do_one N hN xs).1, (do_one N hN xs).2, ?_, h.2.2.1 e⟩
    refine ⟨⟨.inr (.inl rfl), fun h => absurd h (show ¬ (2 : Int) = 3 by decide), fun _ => ht, fun _ => ho⟩, h1x, fun h => absurd h (show ¬ (2 : Int) = 1 by decide), fun _ => ⟨rfl, Nat.le_refl _⟩, fun _ => ⟨wi, Nat.le_refl _, Nat.le_refl _, g.2.2.1⟩, fun h => absurd h (show ¬ (2 : Int) = 3 by decide), fun h => absurd h (show ¬ (2 : Int) = 4 by decide)⟩
  · right
    have en : nextM q M la = lookM q M la := by unfold nextM; rw [if_neg (by omega), if_pos e]
    rw [en] at hb ⊢
    have ht := p3 (.inr e)
    obtain ⟨k, k1, k2, k3⟩ := h.2.2.2.2.1 e
    exact look M (.inr trivial) (.inl ht) (p4 (by omega)) (by omega) (h.rt g (.inl e)) ⟨k, by rw [ht]; omega, k2, k3⟩ hb
  · right
    by_cases hx : la = M.wa
    · have en : nextM q M la = endM M 0 M.ga M.gg := by unfold nextM; rw [if_neg (by omega), if_neg (by omega), if_pos e, if_pos hx]
      rw [en] at hb; cases hb
    · by_cases ht : M.tr = 1
      · have en : nextM q M la = endM { M with tr := 2 } 185 0 0 := by unfold nextM; rw [if_neg (by omega), if_neg (by omega), if_pos e, if_neg hx, if_pos ht]
        rw [en] at hb; cases hb
      · have en : nextM q M la = lookM q { M with tr := 1 } la := by unfold nextM; rw [if_neg (by omega), if_neg (by omega), if_pos e, if_neg hx, if_neg ht]
        rw [en] at hb ⊢
        have ht0 := (p2 e).resolve_right ht
        rcases h.2.2.2.2.2.1 e with ⟨a, _⟩ | ⟨_, k, k1, k2, k3⟩
        · exact absurd a hx
        · exact look { M with tr := 1 } (.inr trivial) (.inr rfl) (p4 (by omega)) (by omega) (h.rt g (.inr ⟨e, hx⟩)) ⟨k, by show (be : Int) + 1 ≤ k; omega, k2, k3⟩ hb
  · have en : nextM q M la = ⟨M, 0, 0, 0, 0, false⟩ := by unfold nextM; rw [if_neg (by omega), if_neg (by omega), if_neg (by omega)]
    rw [en] at hb; cases hb

/-- Where what was got lies. -/
theorem won_at {q : Ask} {sp c0 x1 ga gg : Int} {W : Nat → Int} {wi k : Nat} (hsp : q.sp = sp) (hs : q.s = 0 ∨ q.s = 1) (g : GI sp c0 W wi x1) (hk : k < wi) (h : Won q W k ga gg) (hc : 0 ≤ c0 ∧ c0 ≤ sp) :
    1 ≤ gg ∧ bas q.t sp 0 + c0 ≤ ga ∧ ((q.s = 0 ∧ ga + gg ≤ bas q.t sp 0 + sp) ∨ (q.s = 1 ∧ bas q.t sp 0 + sp ≤ ga ∧ ga + gg ≤ bas q.t sp 0 + 2 * sp)) := by
  obtain ⟨h1, h2, h3⟩ := h
  have r1 := rightB_iff.1 (g.1 (k + 1) (by omega)).right
  have r0 := rightB_iff.1 (g.1 k (by omega)).right
  have m0 := g.le (j := 0) (k := k) (by omega) (by omega)
  rw [g.2.2.2] at m0
  rw [hsp] at h1
  have b1 : bas q.t sp 1 = bas q.t sp 0 + sp := by unfold bas; omega
  rcases hs with e | e
  · rw [if_pos e, e] at h1
    rcases h3 with ⟨_, e1, e2⟩ | ⟨ne, _⟩
    · exact ⟨h2, by omega, .inl ⟨e, by omega⟩⟩
    · exact absurd e ne
  · rw [if_neg (by omega), e, b1] at h1
    rcases h3 with ⟨ne, _⟩ | ⟨_, e1, e2⟩
    · omega
    · exact ⟨h2, by omega, .inr ⟨e, by omega, by omega⟩⟩

/-- Two of them share no word. -/
theorem won_disj {q q' : Ask} {sp c0 x1 ga gg ga' gg' : Int} {W : Nat → Int} {wi k k' : Nat} (ht : q.t = q'.t) (hsp : q.sp = sp) (hsp' : q'.sp = sp) (hs : q.s = 0 ∨ q.s = 1) (hs' : q'.s = 0 ∨ q'.s = 1) (g : GI sp c0 W wi x1) (hk : k < wi) (hk' : k' < wi) (hne : k ≠ k') (h : Won q W k ga gg) (h' : Won q' W k' ga' gg') (hc : 0 ≤ c0 ∧ c0 ≤ sp) :
    ¬ (ga < ga' + gg' ∧ ga' < ga + gg) := by
  have a := won_at hsp hs g hk h hc
  have a' := won_at hsp' hs' g hk' h' hc
  rw [← ht] at a'
  rcases a.2.2 with ⟨e, a2⟩ | ⟨e, a2, a3⟩
  · rcases a'.2.2 with ⟨e', a2'⟩ | ⟨e', a2', a3'⟩
    · obtain ⟨h1, _, h3⟩ := h
      obtain ⟨h1', _, h3'⟩ := h'
      rw [if_pos e, e, hsp] at h1
      rw [if_pos e', e', hsp', ← ht] at h1'
      rcases h3 with ⟨_, e1, _⟩ | ⟨ne, _⟩
      · rcases h3' with ⟨_, e1', _⟩ | ⟨ne, _⟩
        · rcases Nat.lt_or_gt_of_ne hne with hl | hl
          · have := (g.le (j := k + 1) (k := k') (by omega) (by omega)).1
            omega
          · have := (g.le (j := k' + 1) (k := k) (by omega) (by omega)).1
            omega
        · exact absurd e' ne
      · exact absurd e ne
    · omega
  · rcases a'.2.2 with ⟨e', a2'⟩ | ⟨e', a2', a3'⟩
    · omega
    · obtain ⟨h1, _, h3⟩ := h
      obtain ⟨h1', _, h3'⟩ := h'
      rw [if_neg (by omega), e, hsp] at h1
      rw [if_neg (by omega), e', hsp', ← ht] at h1'
      rcases h3 with ⟨ne, _⟩ | ⟨_, e1, _⟩
      · omega
      · rcases h3' with ⟨ne, _⟩ | ⟨_, e1', _⟩
        · omega
        · rcases Nat.lt_or_gt_of_ne hne with hl | hl
          · have := (g.le (j := k + 1) (k := k') (by omega) (by omega)).2
            omega
          · have := (g.le (j := k' + 1) (k := k) (by omega) (by omega)).2
            omega
end Go.Proofs.Ytnnllhlcpmmcaaa
