/- The walk of ArenaCopies: it returns true. -/
import Derived.Test.YtlhpphlfgjopbaaArP
import Derived.Test.YtlhpphlfgjopbaaArI
import Derived.Test.YtlhpphlfgjopbaaArJ
import Derived.Test.YtlhpphlfgjopbaaArF
import Derived.Test.YtlhpphlfgjopbaaOp
import Derived.Deep.RegionHeld3
import Derived.Outline
namespace Go.Proofs.Ytlhpphlfgjopbaa
set_option linter.unusedVariables false
set_option linter.unusedSimpArgs false
open Go.RowKit

theorem one_new (w : World) (v : Value) (t : TypeId) : ∀ j u, [v][j]? = some u → (w.alloc (.cells #[v] t)).cell? ((⟨w.heap.size, 0, none⟩ : Addr).add j) = some u := by
  intro j u hj
  match j, hj with
  | 0, hj =>
    obtain rfl : v = u := by simpa using hj
    exact (World.cell?_alloc_new w _ _ _).trans rfl

/-- What the law knows of memory. -/
def Bun (w W : World) (g h len : Nat) (z : Nat → Int) (g2 h2 len2 : Nat) (y : Nat → Int) (b o b2 o2 : Nat) (k a ox v : Int) : Prop :=
  IsAr W g h len z ∧ IsAr W g2 h2 len2 y ∧ (∀ i, i < len → W.cell? ⟨b, o + i, none⟩ = some (.int .u64 (z i))) ∧ (∀ i, i < len2 → W.cell? ⟨b2, o2 + i, none⟩ = some (.int .u64 (y i))) ∧
  (W.cell? ⟨w.heap.size, 0, none⟩ = some (.int .i64 k) ∧ W.cell? ⟨w.heap.size, 1, none⟩ = some (.int .i64 a) ∧ W.cell? ⟨w.heap.size, 2, none⟩ = some (.int .u64 ox) ∧ W.cell? ⟨w.heap.size, 3, none⟩ = some (.int .u64 v)) ∧
  b < w.heap.size ∧ b2 < w.heap.size ∧ w.heap.size < W.heap.size ∧ Below w.heap.size w W

theorem Bun.keep {w W W' : World} {g h len : Nat} {z : Nat → Int} {g2 h2 len2 : Nat} {y : Nat → Int} {b o b2 o2 : Nat} {k a ox v : Int} (H : Bun w W g h len z g2 h2 len2 y b o b2 o2 k a ox v) (hb : Below W.heap.size W W') :
    Bun w W' g h len z g2 h2 len2 y b o b2 o2 k a ox v := by
  obtain ⟨h1, h2, h3, h4, ⟨x0, x1, x2, x3⟩, h6, h7, h8, h9⟩ := H
  have hs := hb.size
  exact ⟨h1.keep hb, h2.keep hb, fun i hi => (hb.cell (p := ⟨b, o + i, none⟩) (by show b < _; omega)).trans (h3 i hi), fun i hi => (hb.cell (p := ⟨b2, o2 + i, none⟩) (by show b2 < _; omega)).trans (h4 i hi),
    ⟨(hb.cell (p := ⟨w.heap.size, 0, none⟩) h8).trans x0, (hb.cell (p := ⟨w.heap.size, 1, none⟩) h8).trans x1, (hb.cell (p := ⟨w.heap.size, 2, none⟩) h8).trans x2, (hb.cell (p := ⟨w.heap.size, 3, none⟩) h8).trans x3⟩, h6, h7, by omega, h9.trans (hb.mono (by omega))⟩

theorem refSame_arena (n m : Nat) (b1 o1 b2 o2 c1 c2 : Nat) (xs ys : Nat → Int) (hn : n ≤ 16384) (hm : m ≤ 16384) (w : World) (H1 : ∀ i, i < n → w.cell? ⟨b1, o1 + i, none⟩ = some (.int .u64 (xs i))) (H2 : ∀ i, i < m → w.cell? ⟨b2, o2 + i, none⟩ = some (.int .u64 (ys i))) :
    Calls Try.prog 30 #[.slice (some ⟨b1, o1, none⟩) n c1, .slice (some ⟨b2, o2, none⟩) m c2] w fun e w' => e = .returned (.bool (decide (n = m) && eqTo xs ys n)) ∧ Below w.heap.size w w' := by
  by_cases e : n = m
  · subst e
    refine (refSame_any b1 o1 c1 b2 o2 c2 n xs ys hn w H1 H2).mono ?_
    rintro e w' ⟨rfl, h⟩
    exact ⟨ret_bool (by simp), h⟩
  · refine (refSame_no _ _ c1 c2 n m hn hm e w).mono ?_
    rintro e w' ⟨rfl, h⟩
    exact ⟨ret_bool (by simp [e]), h⟩

theorem same_self (g1 h1 n g2 h2 : Nat) (xs : Nat → Int) (w : World) (H : IsAr w g1 h1 n xs) (K : IsAr w g2 h2 n xs) :
    Calls Try.prog 28 #[.pointer (some ⟨g1, 0, none⟩), .pointer (some ⟨g2, 0, none⟩)] w fun e w' => e = .returned (.bool true) ∧ Below w.heap.size w w' := by
  refine (same_arena g1 h1 n g2 h2 n xs xs w H K).mono ?_
  rintro e w' ⟨rfl, h⟩
  refine ⟨ret_bool ?_, h⟩
  have : eqTo xs xs n = true := eqTo_iff.2 fun _ _ => rfl
  simp [this]

theorem IsAr.other {P Q : World} {g h n : Nat} {xs : Nat → Int} (H : IsAr P g h n xs) {r : Nat} (hg : P.grownBy Q (some r)) (h1 : g ≠ r) (h2 : h ≠ r) : IsAr Q g h n xs := by
  obtain ⟨a1, a2, a3, a4, a5, a6⟩ := H
  have e1 : Q.heap[g]? = P.heap[g]? := hg.block g a2 (by simp; omega)
  have e2 : Q.heap[h]? = P.heap[h]? := hg.block h a3 (by simp; omega)
  refine ⟨(World.cell?_of_block (a := ⟨g, 0, none⟩) e1).trans a1, Nat.lt_of_lt_of_le a2 hg.size, Nat.lt_of_lt_of_le a3 hg.size, a4, a5, fun i hi => ⟨(World.cell?_of_block (a := ⟨h, i, none⟩) e2).trans (a6 i hi).1, ?_⟩⟩
  have := (a6 i hi).2
  unfold World.frozen? at this ⊢
  rw [e2]
  exact this

set_option maxRecDepth 100000 in
set_option maxHeartbeats 4000000 in
theorem arenaCopies_walk (A : Option Addr) (len cap : Nat) (A2 : Option Addr) (len2 cap2 : Nat) (k : Int) (hwk : (Lit.int .i64 k).wf = true) (a : Int) (hwa : (Lit.int .i64 a).wf = true) (ox : Int) (hwo : (Lit.int .u64 ox).wf = true) (v : Int) (hwv : (Lit.int .u64 v).wf = true) (w : World) (hr : RowOk w 5 [.int .u64] A len cap) (hr2 : RowOk w 5 [.int .u64] A2 len2 cap2) :
    Calls Try.prog 9 #[.slice A len cap, .slice A2 len2 cap2, .agg #[.int .i64 k, .int .i64 a, .int .u64 ox, .int .u64 v]] w fun e w' => e = .returned (.bool true) ∧ Below w.heap.size w w' := by
  have hm := hr.1
  have hm2 := hr.2.1
  have hm3 := hr2.1
  have hm4 := hr2.2.1
  unfold maxLen at hm2 hm4
  obtain ⟨b, o, z, hA, hc⟩ := hr.ints
  obtain ⟨b2, o2, y, hA2, hc2⟩ := hr2.ints
  clear hr hr2 hwk hwa hwo hwv
  have some_of : ∀ (B : Option Addr) (n c : Nat) (W : World), n ≤ 9223372036854775807 → (∃ (bb oo : Nat) (zz : Nat → Int), (0 < n → B = some ⟨bb, oo, none⟩ ∧ bb < W.heap.size) ∧ ∀ i, i < n → W.cell? ⟨bb, oo + i, none⟩ = some (.int .u64 (zz i))) →
      Calls Try.prog 15 #[.slice B n c] W fun e w' => ∃ p E, e = .returned (.tuple #[.pointer p, .int .i64 E]) ∧ (E = 0 ∨ E = 2) ∧ (n = 0 → E = 2) ∧ (1 ≤ n → n ≤ 16384 → E = 0) ∧ Below W.heap.size W w' := by
    rintro B n c W hn ⟨bb, oo, zz, h1, h2⟩
    by_cases h : 1 ≤ n ∧ n ≤ 16384
    · obtain ⟨rfl, hb⟩ := h1 (by omega)
      refine (of_yes bb oo n c zz h.1 h.2 W hb h2).mono ?_
      rintro e w' ⟨g, h', rfl, hB, _⟩
      exact ⟨_, 0, rfl, .inl rfl, fun e => by omega, fun _ _ => rfl, hB⟩
    · refine (of_no B n c hn h W).mono ?_
      rintro e w' ⟨rfl, hB⟩
      exact ⟨_, 2, rfl, .inr rfl, fun _ => rfl, fun _ _ => by omega, hB⟩
  have SO := hide some_of
  clear some_of
  obtain ⟨w0, hw0⟩ : ∃ W, W = w.alloc (.cells #[.int .i64 k, .int .i64 a, .int .u64 ox, .int .u64 v] 30) := ⟨_, rfl⟩
  have hB0 : Below w.heap.size w w0 := by rw [hw0]; repeat (first | exact Below.refl _ _ | assumption | refine Below.alloc ?_ (by first | (simp; done) | (simp; omega) | omega) _ | refine Below.setCell ?_ (by first | (simp; done) | (simp; omega) | omega) _ | apply Below.drew | refine Below.trans ?_ (Below.mono (by assumption) (by first | (simp; done) | (simp; omega) | omega)))
  have hs0 : w0.heap.size = w.heap.size + 1 := by rw [hw0]; simp
  have HA := hide (fun h => ⟨(hA h).1, show b < w0.heap.size by have := (hA h).2; omega⟩ : 0 < len → A = some ⟨b, o, none⟩ ∧ b < w0.heap.size)
  have HA2 := hide (fun h => ⟨(hA2 h).1, show b2 < w0.heap.size by have := (hA2 h).2; omega⟩ : 0 < len2 → A2 = some ⟨b2, o2, none⟩ ∧ b2 < w0.heap.size)
  have HC := hide (fun i hi => (hB0.cell (p := ⟨b, o + i, none⟩) (hA (by omega)).2).trans (hc i hi).1 : ∀ i, i < len → w0.cell? ⟨b, o + i, none⟩ = some (.int .u64 (z i)))
  have HC2 := hide (fun i hi => (hB0.cell (p := ⟨b2, o2 + i, none⟩) (hA2 (by omega)).2).trans (hc2 i hi).1 : ∀ i, i < len2 → w0.cell? ⟨b2, o2 + i, none⟩ = some (.int .u64 (y i)))
  have S1 := hide (unhide SO A len cap w0 (by omega) ⟨b, o, z, unhide HA, unhide HC⟩)
  have S2 := hide (fun W (hb : Below w0.heap.size w0 W) => unhide SO A2 len2 cap2 W (by omega) ⟨b2, o2, y, fun h => ⟨(unhide HA2 h).1, Nat.lt_of_lt_of_le (unhide HA2 h).2 hb.size⟩, fun i hi => (hb.cell (p := ⟨b2, o2 + i, none⟩) (unhide HA2 (by omega)).2).trans (unhide HC2 i hi)⟩)
  clear SO
  by_cases bad : 100 < len ∨ 100 < len2 ∨ len < 1 ∨ len2 < 1
  · clear hA hc hA2 hc2 HA HA2 HC HC2
    have HW0 := hide hw0
    have HS0 := hide hs0
    have HB0 := hide hB0
    clear hw0 hs0 hB0
    rcases bad with bad | bad | bad | bad
    all_goals
      go_enter Try.func9, Try.ntmps9
      go_wp2_with fail
      rw [← unhide HW0]
      refine (unhide S1).mono ?_
      rintro e w1 ⟨p, E, rfl, hE, hE1, hE2, hb1⟩
      have B1 := hide hb1
      clear hb1
      go_wp2_with fail
      refine (unhide S2 w1 (unhide B1)).mono ?_
      rintro e w2 ⟨p', E', rfl, hE', hE1', hE2', hb2⟩
      have B2 : Below w.heap.size w w2 := (unhide HB0).trans (((unhide B1).trans (hb2.mono (unhide B1).size)).mono (by have := unhide HS0; omega))
      have hsB2 := B2.size
      clear hb2
      rcases hE with rfl | rfl
      all_goals rcases hE' with rfl | rfl
      all_goals first | (exfalso; omega) | skip
      all_goals clear hE1 hE2 hE1' hE2'
      all_goals go_wp2_with (first | (go_at_call 11; refine (num5_any _ _).mono ?_; rintro e w' ⟨rfl, rfl⟩) | (go_at_call 10; refine (works5_any _).mono ?_; rintro e ww ⟨rfl, hww⟩; obtain ⟨hcww, hfww⟩ := bcell hww; (try (simp only [World.size_drew, World.cell?_drew, World.frozen?_drew] at hcww hfww)); have hzww := hww.size; (try (simp only [World.size_alloc, World.size_setCell, World.size_drew] at hzww)); (try (have hzww_w_0 : w.heap.size < ww.heap.size := by omega)); (try (have hzww_w_1 : w.heap.size + 1 < ww.heap.size := by omega)); (try (have hzww_w_2 : w.heap.size + 1 + 1 < ww.heap.size := by omega)); (try (have hzww_w_3 : w.heap.size + 1 + 1 + 1 < ww.heap.size := by omega)); (try (have hyww_w : w.heap.size ≤ ww.heap.size := by omega)); (try (have hyww_wa : w.heap.size + 1 ≤ ww.heap.size := by omega))))
      all_goals go_ret
      all_goals refine ⟨rfl, ?_⟩
      all_goals repeat (first | exact Below.refl _ _ | assumption | refine Below.alloc ?_ (by first | (simp; done) | (simp; omega) | omega) _ | refine Below.setCell ?_ (by first | (simp; done) | (simp; omega) | omega) _ | apply Below.drew | refine Below.trans ?_ (Below.mono (by assumption) (by first | (simp; done) | (simp; omega) | omega)))
  have l1 : 1 ≤ len := by omega
  have l2 : len ≤ 100 := by omega
  have l3 : 1 ≤ len2 := by omega
  have l4 : len2 ≤ 100 := by omega
  clear bad S1 S2
  obtain ⟨rfl, hbs⟩ := unhide HA (by omega)
  obtain ⟨rfl, hb2s⟩ := unhide HA2 (by omega)
  have hbw := (hA (by omega)).2
  have hbw2 := (hA2 (by omega)).2
  have hof := hide (of_yes b o len cap z (by omega) (by omega) w0 hbs (unhide HC))
  have hof2 := hide (fun W (hb : Below w0.heap.size w0 W) => of_yes b2 o2 len2 cap2 y (by omega) (by omega) W (Nat.lt_of_lt_of_le hb2s hb.size) (fun i hi => (hb.cell (p := ⟨b2, o2 + i, none⟩) hb2s).trans (unhide HC2 i hi)))
  have X0 : Hid (w0.cell? ⟨w.heap.size, 0, none⟩ = some (.int .i64 k) ∧ w0.cell? ⟨w.heap.size, 1, none⟩ = some (.int .i64 a) ∧ w0.cell? ⟨w.heap.size, 2, none⟩ = some (.int .u64 ox) ∧ w0.cell? ⟨w.heap.size, 3, none⟩ = some (.int .u64 v)) := hide (by rw [hw0]; refine ⟨?_, ?_, ?_, ?_⟩ <;> go_simp)
  have HW0 := hide hw0
  have HB0 := hide hB0
  have hs1 : w.heap.size < w0.heap.size := by omega
  clear hw0 hs0 hB0 HA HA2 hA hc hA2 hc2
  obtain ⟨i0, hi, hz0, hz1, hz2⟩ := info_parts info_int5
  go_enter Try.func9, Try.ntmps9
  go_wp2_with fail
  rw [← unhide HW0]
  refine (unhide hof).mono ?_
  rintro e w1 ⟨g, h, rfl, hb1, hg, hh, H1⟩
  have B1 := hide hb1
  have H1 := hide H1
  have sz1 := hb1.size
  clear hb1 hof
  go_wp2_with fail
  refine (unhide hof2 w1 (unhide B1)).mono ?_
  rintro e w2 ⟨g2, h2, rfl, hb2, hg2, hh2, H2⟩
  have sz2 := hb2.size
  have hbun : Bun w w2 g h len z g2 h2 len2 y b o b2 o2 k a ox v := by
    have q := (unhide B1).trans (hb2.mono sz1)
    obtain ⟨x0, x1, x2, x3⟩ := unhide X0
    exact ⟨(unhide H1).keep hb2, H2, fun i hi => (q.cell (p := ⟨b, o + i, none⟩) hbs).trans (unhide HC i hi), fun i hi => (q.cell (p := ⟨b2, o2 + i, none⟩) hb2s).trans (unhide HC2 i hi),
      ⟨(q.cell (p := ⟨w.heap.size, 0, none⟩) hs1).trans x0, (q.cell (p := ⟨w.heap.size, 1, none⟩) hs1).trans x1, (q.cell (p := ⟨w.heap.size, 2, none⟩) hs1).trans x2, (q.cell (p := ⟨w.heap.size, 3, none⟩) hs1).trans x3⟩, hbw, hbw2, by omega, (unhide HB0).trans (q.mono (by omega))⟩
  have ne1 : g ≠ g2 := by have := (unhide H1).2.1; omega
  have ne2 : h ≠ g2 := by have := (unhide H1).2.2.1; omega
  have ne3 : g ≠ h2 := by have := (unhide H1).2.1; omega
  have ne4 : h ≠ h2 := by have := (unhide H1).2.2.1; omega
  have NE := hide (And.intro ne1 (And.intro ne2 (And.intro ne3 ne4)))
  have BU := hide hbun
  have hb0l : b < w2.heap.size := by omega
  have hb2l : b2 < w2.heap.size := by omega
  clear ne1 ne2 ne3 ne4 hbun hb2 hof2 H1 H2 HW0 HB0 X0 HC HC2 B1 hg hh hg2 hh2 hs1 hbs hb2s
  obtain ⟨M, hM⟩ : ∃ M, M = if len = len2 then len else 0 := ⟨_, rfl⟩
  have HM := hide hM
  have hMl : M ≤ len := by rw [hM]; split <;> omega
  clear hM
  go_wp2_with (first | (go_at_call 11; refine (num5_any _ _).mono ?_; rintro e w' ⟨rfl, rfl⟩))
  go_loopw [11, 12] (fun vv i wr => ∃ k : Nat, k ≤ M ∧ i = .int .i64 k ∧ Hid (wr.ownsRow w2.heap.size 3 1 vv (unl z y k).length ((unl z y k).map (.int .i64))) ∧ Below w2.heap.size w2 wr) (fun _ i _ => M - (intOf i).toNat)
  case atStart => exact ⟨0, Nat.zero_le _, rfl, hide (World.ownsRow_nil _ _ _ _), Below.refl _ _⟩
  case round =>
    obtain ⟨q, hk, rfl, HO, hB⟩ := hrel
    by_cases hlt : q < M
    · obtain ⟨hll, hMM⟩ : len = len2 ∧ M = len := by
        have := unhide HM
        by_cases e : len = len2
        · rw [if_pos e] at this
          exact ⟨e, this⟩
        · rw [if_neg e] at this
          omega
      have b0 : (0 : Int) ≤ (q : Int) := by omega
      have b1 : (q : Int) < (len : Int) := by omega
      have b2' : (q : Int) < (len2 : Int) := by omega
      have hmb : ((len : Int) == (len2 : Int)) = true := by simp [hll]
      have hq1 : q < len := by omega
      have hq2 : q < len2 := by omega
      have q1 := (hB.cell (p := ⟨b, o + q, none⟩) hb0l).trans ((unhide BU).2.2.1 q hq1)
      have q2 := (hB.cell (p := ⟨b2, o2 + q, none⟩) hb2l).trans ((unhide BU).2.2.2.1 q hq2)
      have hsz := hB.size
      have hl := unl_len z y q
      have HMM := hide hMM
      clear hll hMM
      by_cases hx : z q = y q
      · have hne : (z q != y q) = false := by simp [hx]
        go_wp2
        go_quiet (fail)
        all_goals go_wp2
        all_goals go_roundw
        all_goals first | (case measure => simp [intOf]; omega) | skip
        all_goals exact ⟨q + 1, by omega, by go_num, hide (by rw [unl, if_pos hx]; exact unhide HO), below_drewN hB _⟩
      · have hne : (z q != y q) = true := by simp [hx]
        go_wp2
        go_quiet (fail)
        rename_i nq
        obtain ⟨W, hW⟩ : ∃ W, W = wr.drewN nq := ⟨_, rfl⟩
        have HO2 : Hid (W.ownsRow w2.heap.size 3 1 _ (unl z y q).length ((unl z y q).map (.int .i64))) := hide (by rw [hW]; exact unhide HO)
        have hBW : Below w2.heap.size w2 W := by rw [hW]; exact below_drewN hB _
        have hsW := hBW.size
        rw [← hW]
        clear hW q1 q2 hB
        go_wp2_with (at_builtin; refine wpList_append_own _ rfl (.tmp 68) (.tmp 70) _ rfl w2.heap.size 3 i0 (.int .i64 0) 1 8 Try.underlying62 hi hz0 hz1 hz2 rfl (by decide) _ _ _ rfl ((unhide HO2).alloc _) ⟨W.heap.size, 0, none⟩ 1 1 [.int .i64 (q : Int)] rfl rfl ?c1 ?c2 ?c3 ?c4 ?c5 ?_)
        case c1 => exact one_new _ _ _
        case c2 => simp [Value.oneCell']
        case c3 => simp only [maxLen]; omega
        case c4 => omega
        case c5 => simp; omega
        intro v' w3 hown' hgrow _
        have HO' := hide hown'
        have HG' := hide hgrow
        clear hown' hgrow
        go_wp2
        go_roundw
        case measure => simp [intOf]; omega
        case rel => exact ⟨q + 1, by omega, by go_num, hide (by rw [unl, if_neg hx]; simpa using unhide HO'), (hBW.alloc hsW _).grown (unhide HG') (by simp; omega) (fun r hr => ((unhide HO2).lt r hr).1)⟩
    · have hqM : q = M := by omega
      have hcases : (len = len2 ∧ ¬ (q : Int) < (len : Int) ∧ unl z y q = unl z y len) ∨ (¬ len = len2 ∧ (q : Int) < (len : Int) ∧ unl z y q = []) := by
        have := unhide HM
        by_cases e : len = len2
        · rw [if_pos e] at this
          have e2 : q = len := by omega
          exact .inl ⟨e, by omega, by rw [e2]⟩
        · rw [if_neg e] at this
          have e2 : q = 0 := by omega
          exact .inr ⟨e, by omega, by rw [e2]; rfl⟩
      have hU : Hid ((if len = len2 then unl z y len else []) = unl z y q) := by
        rcases hcases with ⟨e, _, h⟩ | ⟨e, _, h⟩
        · rw [if_pos e]; exact hide h.symm
        · rw [if_neg e]; exact hide h.symm
      have hul := unl_len z y q
      have hM100 : q ≤ 100 := by omega
      obtain ⟨A', c', rfl, hr⟩ := RdL.of_own (unhide HO)
      have HL1 := hide hr
      have BU1 := hide ((unhide BU).keep hB)
      have hwB := unlike_arena g h len g2 h2 len2 z y wr (unhide BU1).1 (unhide BU1).2.1
      rw [unhide hU] at hwB
      have hwB := hide hwB
      have hdec : Hid ((if len = len2 then True else False) ∨ True) := hide (.inr trivial)
      have hSm := hide (fun W (hb : Below wr.heap.size wr W) => same_arena g h len g2 h2 len2 z y W ((unhide BU1).keep hb).1 ((unhide BU1).keep hb).2.1)
      have hSr := hide (fun W (hb : Below wr.heap.size wr W) => refSame_arena len len2 b o b2 o2 cap cap2 z y (by omega) (by omega) W ((unhide BU1).keep hb).2.2.1 ((unhide BU1).keep hb).2.2.2.1)
      generalize (decide (len = len2) && eqTo z y len) = sm at hSm hSr
      have HB := hide hB
      generalize unl z y q = L at *
      clear HO BU hr hU
      have hbb : (sm != sm) = false := by simp
      have hLb : ((L.length : Int) != (L.length : Int)) = false := by simp
      have hfork : (¬ (q : Int) < (len : Int)) ∨ ((q : Int) < (len : Int) ∧ ((len : Int) == (len2 : Int)) = false) := by
        rcases hcases with ⟨_, h1, _⟩ | ⟨e, h1, _⟩
        · exact .inl h1
        · exact .inr ⟨h1, by simp; omega⟩
      have hL100 : L.length ≤ 100 := by omega
      have szr := hB.size
      clear hcases hqM hB
      rcases hfork with h1 | ⟨h1, hmb⟩
      all_goals
        go_wp2_with fail
        refine (unhide hwB).mono ?_
        rintro e w3 ⟨A'', c'', rfl, hr2, hb3⟩
        have HL2 := hide hr2
        have B3 := hide hb3
        clear hr2 hb3
        go_wp2_with fail
        refine (unhide hSm w3 (unhide B3)).mono ?_
        rintro e w4 ⟨rfl, hb4⟩
        have B4 := hide ((unhide B3).trans (hb4.mono (unhide B3).size))
        have HL2 := hide ((unhide HL2).keep hb4)
        clear hb4
        go_wp2_with fail
        refine (unhide hSr w4 (unhide B4)).mono ?_
        rintro e w5 ⟨rfl, hb5⟩
        have B5 := hide ((unhide B4).trans (hb5.mono (unhide B4).size))
        have HL2 := hide ((unhide HL2).keep hb5)
        clear hb5
        go_wp2_with fail
        refine (same_self g h len g h z w5 ((unhide BU1).keep (unhide B5)).1 ((unhide BU1).keep (unhide B5)).1).mono ?_
        rintro e w6 ⟨rfl, hb6⟩
        have B6 := hide ((unhide B5).trans (hb6.mono (unhide B5).size))
        have HL2 := hide ((unhide HL2).keep hb6)
        have HL1 := hide ((unhide HL1).keep (unhide B6))
        have BU6 := hide ((unhide BU1).keep (unhide B6))
        clear hb6 B3 B4 B5 hwB hSm hSr BU1
        go_wp2_with fail
        go_loopw [14] (fun i wr => ∃ j : Nat, j ≤ L.length ∧ i = .int .i64 j ∧ ∃ m, wr = w6.drewN m) (fun i _ => L.length - (intOf i).toNat)
        case atStart => exact ⟨0, Nat.zero_le _, rfl, 0, rfl⟩
        case round =>
          obtain ⟨j, hj, rfl, m, rfl⟩ := hrel
          by_cases hjl : j < L.length
          · obtain ⟨bb1, oo1, rfl, hbb1, hcc1⟩ := unhide HL1 (by omega)
            obtain ⟨bb2, oo2, rfl, hbb2, hcc2⟩ := unhide HL2 (by omega)
            have e1 := hcc1 j hjl
            have e2 := hcc2 j hjl
            have b0 : (0 : Int) ≤ (j : Int) := by omega
            have b1 : (j : Int) < (L.length : Int) := by omega
            clear hcc1 hcc2
            generalize L.getD j 0 = uu at e1 e2
            have hne : (uu != uu) = false := by simp
            go_wp2
            go_quiet (fail)
            all_goals go_wp2
            all_goals go_roundw
            all_goals first | (case measure => simp [intOf]; omega) | skip
            all_goals exact ⟨j + 1, by omega, by go_num, _, rfl⟩
          · have hge : ¬ (j : Int) < (L.length : Int) := by omega
            obtain ⟨W, hW⟩ : ∃ W, W = w6.drewN m := ⟨_, rfl⟩
            have hBW : Below w6.heap.size w6 W := by rw [hW]; exact below_drewN (Below.refl _ _) _
            have BW := hide ((unhide BU6).keep hBW)
            rw [← hW]
            clear hW hBW HL1 HL2 B6 BU6
            go_wp2_with fail
            refine (copy_any g h len z W (unhide BW).1).mono ?_
            rintro e w7 ⟨g3, h3, rfl, hb7, hg3, hh3, H7⟩
            have BW7 := hide ((unhide BW).keep hb7)
            have H7 := hide H7
            have B7 := hide hb7
            have s7 := hb7.size
            clear hb7
            go_wp2_with fail
            refine (same_self g h len g3 h3 z w7 (unhide BW7).1 (unhide H7)).mono ?_
            rintro e w8 ⟨rfl, hb8⟩
            have H8 := hide ((unhide H7).keep hb8)
            have B8 := hide ((unhide B7).trans (hb8.mono s7))
            obtain ⟨x0, x1, x2, x3⟩ := ((unhide BW7).keep hb8).2.2.2.2.1
            have s8 := hb8.size
            clear hb8 H7 B7 BW7
            go_wp2_with fail
            refine (do_any g3 h3 len z k a ox v w8 (unhide H8)).mono ?_
            rintro e w9 ⟨rfl, hg9, H9⟩
            have B9 := hide ((unhide B8).grown hg9 (unhide B8).size (fun k e => by cases e; exact hh3))
            have H9 := hide H9
            have BW9 := hide ((unhide BW).keep (unhide B9))
            obtain ⟨y0, y1, y2, y3⟩ := (unhide BW9).2.2.2.2.1
            clear x0 x1 x2 x3 hg9 H8 B8
            go_wp2_with fail
            refine (refDo_any b o len cap z (by omega) (by omega) k a ox v w9 (by have := (unhide BW9).2.2.2.2.2.2.2.1; have := (unhide BW9).2.2.2.2.2.1; omega) (unhide BW9).2.2.1).mono ?_
            rintro e w10 ⟨B', off', C, rfl, hb10, hs10, hne10, hX⟩
            have BW10 := hide ((unhide BW9).keep hb10)
            have H10 := hide ((unhide H9).keep hb10)
            have HX := hide hX
            clear y0 y1 y2 y3 hb10 hX H9 BW9 B9 hne10
            go_wp2_with fail
            refine (has_true g h len z b o cap w10 (unhide BW10).1 (by have := (unhide BW10).2.2.2.2.2.2.2.1; have := (unhide BW10).2.2.2.2.2.1; omega) (unhide BW10).2.2.1).mono ?_
            rintro e w11 ⟨rfl, hb11⟩
            have BW11 := hide ((unhide BW10).keep hb11)
            have H11 := hide ((unhide H10).keep hb11)
            have HX11 := hide (fun i hi => (hb11.cell (p := ⟨B', off' + i, none⟩) hs10).trans (unhide HX i hi))
            have s11 : B' < w11.heap.size := Nat.lt_of_lt_of_le hs10 hb11.size
            clear hb11 HX H10 BW10
            go_wp2_with fail
            refine (has_true g3 h3 len _ B' off' C w11 (unhide H11) s11 (unhide HX11)).mono ?_
            rintro e w12 ⟨rfl, hb12⟩
            have BW12 := hide ((unhide BW11).keep hb12)
            clear hb12
            go_wp2_with fail
            refine (works5_any w12).mono ?_
            rintro e w13 ⟨rfl, hb13⟩
            have BW13 := hide ((unhide BW12).keep hb13)
            clear hb13
            go_wp2_with fail
            go_ret
            exact ⟨rfl, (unhide BW13).2.2.2.2.2.2.2.2⟩
end Go.Proofs.Ytlhpphlfgjopbaa
