/- The walk of ClaimTold: it returns true. -/
import Derived.Test.YtnnllhlcpmmcaaaClU
import Derived.Deep.DeepCutAuto
import Derived.Deep.RegionHeld3
namespace Go.Proofs.Ytnnllhlcpmmcaaa
set_option linter.unusedVariables false
set_option linter.unusedSimpArgs false
open Go.RowKit

/-- What holds ahead of each answer. -/
def ToldR (q : Ask) (S : Nat → ByteArray) (w : World) (m G : Nat) (wr : World) (M : Mc) (c : Nat) : Prop :=
  M.ok ∧ cnt M c ∧ IsM wr m (M.c q) ∧ Bx wr G (rcC q.t q.sp q.A q.len q.cap q.s q.n q.mo (M.pl - 1) M.tr M.wa M.ga M.gg M.oe M.oa M.og) ∧ Below w.heap.size w wr

set_option maxRecDepth 100000 in
set_option maxHeartbeats 8000000 in
theorem claimTold_walk (t : Int) (_ : (Lit.int .i64 t).wf = true) (sp : Int) (_ : (Lit.int .i64 sp).wf = true) (A : Option Addr) (len cap : Nat) (s : Int) (_ : (Lit.int .i64 s).wf = true) (n : Int) (_ : (Lit.int .i64 n).wf = true) (mo : Int) (_ : (Lit.int .i64 mo).wf = true) (A2 : Option Addr) (len2 cap2 : Nat) (w : World) (hr : RowOk w 5 [.str] A len cap) (hr2 : RowOk w 5 [.int .u64] A2 len2 cap2) :
    Calls Try.prog 3 #[.agg #[.int .i64 t, .int .i64 sp, .slice A len cap], .agg #[.int .i64 s, .int .i64 n, .int .i64 mo], .slice A2 len2 cap2] w fun e w' => e = .returned (.bool true) ∧ Below w.heap.size w w' := by
  have hm := hr.1
  have hm2 := hr.2.1
  have hm3 := hr2.1
  have hm4 := hr2.2.1
  unfold maxLen at hm2 hm4
  obtain ⟨S, H, hS⟩ := ShOk.of_row hr
  obtain ⟨b2, o2, z, hA2, hc2⟩ := hr2.ints
  have cf := hide (fun W (hW : Below w.heap.size w W) => few14_any t sp A len cap S (by omega) W (H.keep hW) hS)
  clear hr hr2
  cases ef : fewB len S with
  | false =>
    rw [ef] at cf
    clear ef H hS hA2 hc2
    go_enter Try.func3, Try.ntmps3
    go_wp2_with fail
    refine (unhide cf _ (by repeat (first | exact Below.refl _ _ | assumption | refine Below.alloc ?_ (by first | (simp; done) | (simp; omega) | omega) _ | refine Below.setCell ?_ (by first | (simp; done) | (simp; omega) | omega) _ | apply Below.drew | refine Below.trans ?_ (Below.mono (by assumption) (by first | (simp; done) | (simp; omega) | omega))))).mono ?_
    rintro en w1 ⟨rfl, h1⟩
    have B1 : Below w.heap.size w w1 := by repeat (first | exact Below.refl _ _ | assumption | refine Below.alloc ?_ (by first | (simp; done) | (simp; omega) | omega) _ | refine Below.setCell ?_ (by first | (simp; done) | (simp; omega) | omega) _ | apply Below.drew | refine Below.trans ?_ (Below.mono (by assumption) (by first | (simp; done) | (simp; omega) | omega)))
    go_wp2_with fail
    refine (works14_any _).mono ?_
    rintro en w2 ⟨rfl, h2⟩
    have B2 := B1.trans (h2.mono B1.size)
    go_wp2
    go_ret
    exact ⟨rfl, B2⟩
  | true =>
    have hf := fewB_iff.1 ef
    rw [ef] at cf
    have h100 : ∀ i, i < len → (S i).size ≤ 9223372036854775807 := fun i hi => by have := hf.2 i hi; omega
    have hl20 := hf.1
    by_cases h20 : 20 < len2
    · clear ef H hS hA2 hc2 hf h100
      go_enter Try.func3, Try.ntmps3
      go_wp2_with fail
      refine (unhide cf _ (by repeat (first | exact Below.refl _ _ | assumption | refine Below.alloc ?_ (by first | (simp; done) | (simp; omega) | omega) _ | refine Below.setCell ?_ (by first | (simp; done) | (simp; omega) | omega) _ | apply Below.drew | refine Below.trans ?_ (Below.mono (by assumption) (by first | (simp; done) | (simp; omega) | omega))))).mono ?_
      rintro en w1 ⟨rfl, h1⟩
      have B1 : Below w.heap.size w w1 := by repeat (first | exact Below.refl _ _ | assumption | refine Below.alloc ?_ (by first | (simp; done) | (simp; omega) | omega) _ | refine Below.setCell ?_ (by first | (simp; done) | (simp; omega) | omega) _ | apply Below.drew | refine Below.trans ?_ (Below.mono (by assumption) (by first | (simp; done) | (simp; omega) | omega)))
      go_wp2_with fail
      refine (works14_any _).mono ?_
      rintro en w2 ⟨rfl, h2⟩
      have B2 := B1.trans (h2.mono B1.size)
      go_wp2
      go_ret
      exact ⟨rfl, B2⟩
    have h20' : ¬ 20 < len2 := h20
    have CR := hide (fun W (hW : Below w.heap.size w W) => right14_any t sp A len cap S (by omega) h100 s n mo W (H.keep hW))
    cases er : (okPB t sp len S && (decide (s = 0 ∨ s = 1) && asN n mo)) with
    | false =>
      rw [er] at CR
      have hno : basE t sp s len S ≠ 0 ∨ asN n mo = false := by
        unfold basE
        simp only [Bool.and_eq_false_iff, decide_eq_false_iff_not] at er
        rcases er with e | e | e
        · left; rw [e]; simp
        · left
          by_cases e' : okPB t sp len S = true
          · rw [if_pos e', if_neg e]; decide
          · rw [if_neg e']; decide
        · right; exact e
      have CN := hide (fun W (hW : Below w.heap.size w W) => newM_no t sp A len cap S (by omega) h100 s n mo W (H.keep hW) hno)
      clear ef H hS hA2 hc2 hf h100 hno er
      go_enter Try.func3, Try.ntmps3
      go_wp2_with fail
      refine (unhide cf _ (by repeat (first | exact Below.refl _ _ | assumption | refine Below.alloc ?_ (by first | (simp; done) | (simp; omega) | omega) _ | refine Below.setCell ?_ (by first | (simp; done) | (simp; omega) | omega) _ | apply Below.drew | refine Below.trans ?_ (Below.mono (by assumption) (by first | (simp; done) | (simp; omega) | omega))))).mono ?_
      rintro e w1 ⟨rfl, hw1⟩; obtain ⟨hcw1, hfw1⟩ := bcell hw1; (try (simp only [World.size_drew, World.cell?_drew, World.frozen?_drew] at hcw1 hfw1)); have hzw1 := hw1.size; (try (simp only [World.size_alloc, World.size_setCell, World.size_drew] at hzw1)); (try (have hzw1_w_0 : w.heap.size < w1.heap.size := by omega)); (try (have hzw1_w_1 : w.heap.size + 1 < w1.heap.size := by omega)); (try (have hzw1_w_2 : w.heap.size + 1 + 1 < w1.heap.size := by omega)); (try (have hzw1_w_3 : w.heap.size + 1 + 1 + 1 < w1.heap.size := by omega)); (try (have hyw1_w : w.heap.size ≤ w1.heap.size := by omega)); (try (have hyw1_wa : w.heap.size + 1 ≤ w1.heap.size := by omega))
      have B1 : Below w.heap.size w w1 := by repeat (first | exact Below.refl _ _ | assumption | refine Below.alloc ?_ (by first | (simp; done) | (simp; omega) | omega) _ | refine Below.setCell ?_ (by first | (simp; done) | (simp; omega) | omega) _ | apply Below.drew | refine Below.trans ?_ (Below.mono (by assumption) (by first | (simp; done) | (simp; omega) | omega)))
      have HP1 : Hid (BoxP w1 w.heap.size t sp A len cap) := hide ⟨by omega, by go_simp, by go_simp, by go_simp⟩
      have HX1 : Hid (Cl3 w1 (w.heap.size + 1) s n mo) := hide ⟨by omega, by go_simp, by go_simp, by go_simp⟩
      clear hcw1 hfw1 hw1
      obtain ⟨_, p0, p1, p2⟩ := unhide HP1
      obtain ⟨_, x0, x1, x2⟩ := unhide HX1
      go_wp2_with fail
      refine (unhide CN _ B1).mono ?_
      rintro en w2 ⟨rfl, hw2⟩
      have HP2 := hide ((unhide HP1).keep hw2)
      have HX2 := hide ((unhide HX1).keep hw2)
      have B2 := B1.trans (hw2.mono B1.size)
      clear hw2 p0 p1 p2 x0 x1 x2 HP1 HX1
      obtain ⟨_, p0, p1, p2⟩ := unhide HP2
      obtain ⟨_, x0, x1, x2⟩ := unhide HX2
      go_wp2_with fail
      refine (unhide CR _ B2).mono ?_
      rintro en w3 ⟨rfl, h3⟩
      have B3 := B2.trans (h3.mono B2.size)
      clear p0 p1 p2 x0 x1 x2
      go_wp2_with (go_at_call 13; refine (num14_any _ _).mono ?_; rintro e w' ⟨rfl, rfl⟩)
      refine (works14_any _).mono ?_
      rintro en w4 ⟨rfl, h4⟩
      have B4 := B3.trans (h4.mono B3.size)
      go_wp2
      go_ret
      exact ⟨rfl, B4⟩
    | true =>
      rw [er] at CR
      simp only [Bool.and_eq_true, decide_eq_true_eq] at er
      obtain ⟨e1, e2, e3⟩ := er
      have hb0 : basE t sp s len S = 0 := by unfold basE; rw [if_pos e1, if_pos e2]
      have CN := hide (fun W (hW : Below w.heap.size w W) => newM_ok t sp A len cap S (by omega) h100 s n mo W (H.keep hW) hb0 e3)
      have HS := hide H
      have HA2 := hide hA2
      have HC2 := hide hc2
      have HH := hide h100
      have hfar : ∀ m, w.heap.size ≤ m → Ask.far ⟨t, sp, A, len, cap, s, n, mo⟩ m := fun m hm b o e => by
        by_cases hl : 0 < len
        · obtain ⟨b', o', e', hlt, _⟩ := H hl
          have e4 : A = some ⟨b, o, none⟩ := e
          rw [e'] at e4
          injection e4 with e4
          injection e4 with e4 _ _
          omega
        · have h0 := (okPB_iff.1 e1).2.2.1
          omega
      have HF := hide hfar
      clear ef H hS hA2 hc2 hf hb0 h100 hfar
      go_enter Try.func3, Try.ntmps3
      go_wp2_with fail
      refine (unhide cf _ (by repeat (first | exact Below.refl _ _ | assumption | refine Below.alloc ?_ (by first | (simp; done) | (simp; omega) | omega) _ | refine Below.setCell ?_ (by first | (simp; done) | (simp; omega) | omega) _ | apply Below.drew | refine Below.trans ?_ (Below.mono (by assumption) (by first | (simp; done) | (simp; omega) | omega))))).mono ?_
      rintro e w1 ⟨rfl, hw1⟩; obtain ⟨hcw1, hfw1⟩ := bcell hw1; (try (simp only [World.size_drew, World.cell?_drew, World.frozen?_drew] at hcw1 hfw1)); have hzw1 := hw1.size; (try (simp only [World.size_alloc, World.size_setCell, World.size_drew] at hzw1)); (try (have hzw1_w_0 : w.heap.size < w1.heap.size := by omega)); (try (have hzw1_w_1 : w.heap.size + 1 < w1.heap.size := by omega)); (try (have hzw1_w_2 : w.heap.size + 1 + 1 < w1.heap.size := by omega)); (try (have hzw1_w_3 : w.heap.size + 1 + 1 + 1 < w1.heap.size := by omega)); (try (have hyw1_w : w.heap.size ≤ w1.heap.size := by omega)); (try (have hyw1_wa : w.heap.size + 1 ≤ w1.heap.size := by omega))
      have B1 : Below w.heap.size w w1 := by repeat (first | exact Below.refl _ _ | assumption | refine Below.alloc ?_ (by first | (simp; done) | (simp; omega) | omega) _ | refine Below.setCell ?_ (by first | (simp; done) | (simp; omega) | omega) _ | apply Below.drew | refine Below.trans ?_ (Below.mono (by assumption) (by first | (simp; done) | (simp; omega) | omega)))
      have HP1 : Hid (BoxP w1 w.heap.size t sp A len cap) := hide ⟨by omega, by go_simp, by go_simp, by go_simp⟩
      have HX1 : Hid (Cl3 w1 (w.heap.size + 1) s n mo) := hide ⟨by omega, by go_simp, by go_simp, by go_simp⟩
      clear hcw1 hfw1 hw1
      obtain ⟨_, p0, p1, p2⟩ := unhide HP1
      obtain ⟨_, x0, x1, x2⟩ := unhide HX1
      go_wp2_with fail
      refine (unhide CN _ B1).mono ?_
      rintro en w2 ⟨m, hwm, rfl, hm2', hw2⟩
      have HP2 := hide ((unhide HP1).keep hw2)
      have HX2 := hide ((unhide HX1).keep hw2)
      have B2 := B1.trans (hw2.mono B1.size)
      have HM2 := hide hm2'
      clear hm2' hw2 p0 p1 p2 x0 x1 x2 HP1 HX1
      obtain ⟨_, p0, p1, p2⟩ := unhide HP2
      obtain ⟨_, x0, x1, x2⟩ := unhide HX2
      go_wp2_with fail
      refine (unhide CR _ B2).mono ?_
      rintro en w3 ⟨rfl, hw3⟩
      have HP3 := hide ((unhide HP2).keep hw3)
      have HX3 := hide ((unhide HX2).keep hw3)
      have B3 := B2.trans (hw3.mono B2.size)
      have HM3 := hide ((unhide HM2).keep hw3)
      have hm3' : m < w3.heap.size := (unhide HM3).1
      clear hw3 p0 p1 p2 x0 x1 x2 HP2 HX2 HM2
      obtain ⟨_, p0, p1, p2⟩ := unhide HP3
      obtain ⟨_, x0, x1, x2⟩ := unhide HX3
      go_wp2_with (go_at_call 13; refine (num14_any _ _).mono ?_; rintro e w' ⟨rfl, rfl⟩)
      refine (refNew14_any t sp A len cap s n mo _).mono ?_
      rintro en w4 ⟨rfl, hw4⟩
      have B4 := B3.trans (hw4.mono B3.size)
      have HM4 := hide ((unhide HM3).keep hw4)
      have hm4' : m < w4.heap.size := (unhide HM4).1
      have hz4 := B4.size
      have hwm' : w.heap.size ≤ m := by have := B1.size; omega
      clear hw4 HM3 B1 B2 B3 CN CR cf p0 p1 p2 x0 x1 x2 HP3 HX3
      go_wp2
      have hBa : Below w4.heap.size w4 (w4.alloc (.cells #[.int .i64 t, .int .i64 sp, .slice A len cap, .int .i64 s, .int .i64 n, .int .i64 mo, .int .i64 0, .int .i64 0, .int .u64 0, .int .i64 0, .int .i64 0, .int .i64 0, .int .i64 0, .int .i64 0] 40)) := (Below.refl _ _).alloc (Nat.le_refl _) _
      have HT5 : Hid (ToldR ⟨t, sp, A, len, cap, s, n, mo⟩ S w m w4.heap.size (w4.alloc (.cells #[.int .i64 t, .int .i64 sp, .slice A len cap, .int .i64 s, .int .i64 n, .int .i64 mo, .int .i64 0, .int .i64 0, .int .u64 0, .int .i64 0, .int .i64 0, .int .i64 0, .int .i64 0, .int .i64 0] 40)) newMc 0) :=
        hide ⟨newMc_ok, cnt_new, (unhide HM4).keep hBa, Bx.new w4 40 t sp A len cap s n mo 0 0 0 0 0 0 0 0, B4.trans (hBa.mono B4.size)⟩
      obtain ⟨G, hG⟩ : ∃ G, w4.heap.size = G := ⟨_, rfl⟩
      rw [hG] at HT5
      have hGm : m < G := by omega
      have hGw : w.heap.size ≤ G := by omega
      clear HM4 B4 hBa
      rw [hG]
      go_loopw [10, 11] (fun s10 i wr => ∃ (k c : Nat) (M : Mc), k ≤ len2 ∧ i = .int .i64 k ∧ s10 = .int .i64 c ∧ Hid (ToldR ⟨t, sp, A, len, cap, s, n, mo⟩ S w m G wr M c)) (fun _ i _ => len2 - (intOf i).toNat)
      case atStart => exact ⟨0, 0, newMc, by omega, rfl, rfl, HT5⟩
      case round =>
        obtain ⟨k, c, M, hk, rfl, rfl, HT⟩ := hrel
        by_cases hlt : k < len2
        · have hlt' : 0 < len2 := by omega
          obtain ⟨rfl, hb2⟩ := unhide HA2 hlt'
          obtain ⟨hok, hcnt, hM, hB, hBL⟩ := unhide HT
          have hzr := hBL.size
          have HOK := hide hok
          have HCN := hide hcnt
          have HM := hide hM
          have HB := hide hB
          have HBL := hide hBL
          have hGr : G < wr.heap.size := hB.1
          have hy := wf_u64 (unhide HC2 k hlt).2
          have a0 : wr.cell? ⟨b2, o2 + k, none⟩ = some (.int .u64 (z k)) := (hBL.cell (p := ⟨b2, o2 + k, none⟩) hb2).trans (unhide HC2 k hlt).1
          have b0 : (0 : Int) ≤ (k : Int) := by omega
          have b1 : (k : Int) < (len2 : Int) := by omega
          have C := hide (nextM_any ⟨t, sp, A, len, cap, s, n, mo⟩ M (z k) m S (show len ≤ 9223372036854775807 by omega) (unhide HH) wr ⟨(unhide HS).keep hBL, e1, e2, e3⟩ (unhide HF m hwm') hM hok hy.1 hy.2)
          have CQ := hide (fun W => refNextM_any ⟨t, sp, A, len, cap, s, n, mo⟩ M (z k) S W ⟨e1, e2, e3⟩ hok hy.1 hy.2)
          have HOK2 := hide (nextM_ok ⟨t, sp, A, len, cap, s, n, mo⟩ M (z k) hok)
          have HCN2 := hide (cnt_next ⟨t, sp, A, len, cap, s, n, mo⟩ M (z k) c hok hcnt)
          unfold Nx.val at C
          unfold Nx.rval rcM at CQ
          generalize nextM ⟨t, sp, A, len, cap, s, n, mo⟩ M (z k) = r at C CQ HOK2 HCN2
          obtain ⟨rM, rk, ra, ro, rv, rb⟩ := r
          dsimp only at C CQ HOK2 HCN2
          have hc3 := hcnt.2.2.2
          clear hok hcnt hM hB hBL HT hy HOK HCN
          go_wp2_with fail
          refine (unhide C).mono ?_
          rintro en w5 ⟨rfl, hg5, hI5⟩
          have hz5 := hg5.size
          have hGm' : ¬ G = m := by omega
          have hCh5 : Chg (fun i => i = m) wr w5 := Chg.gr hg5 rfl
          have HM5 := hide hI5
          have HB5 : Hid (Bx w5 G (rcC t sp A len cap s n mo (M.pl - 1) M.tr M.wa M.ga M.gg M.oe M.oa M.og)) := hide ⟨by omega, fun i hi => ⟨(hCh5.cell hGr hGm').trans ((unhide HB).2 i hi).1, (hCh5.frozen hGr hGm').trans ((unhide HB).2 i hi).2⟩⟩
          have HBL5 := hide ((unhide HBL).trans (hCh5.below (n := w.heap.size) (fun i e => by subst e; exact hwm') hzr))
          have a5 : w5.cell? ⟨b2, o2 + k, none⟩ = some (.int .u64 (z k)) := (hCh5.cell (by omega) (by omega)).trans a0
          have hb5 : b2 < w5.heap.size := by omega
          clear a0 hg5 hI5 hCh5 C HM HB HBL
          have hBa : Below w5.heap.size w5 (w5.alloc (.cells #[.int .i64 rk, .int .i64 ra, .int .u64 ro, .int .u64 rv] 44)) := (Below.refl _ _).alloc (Nat.le_refl _) _
          have HX6 := hide (Ac4.new w5 44 rk ra ro rv)
          have HM6 := hide ((unhide HM5).keep hBa)
          have HB6 := hide ((unhide HB5).keep hBa)
          have HBL6 := hide ((unhide HBL5).trans (hBa.mono (by omega)))
          have a6 := (hBa.cell (p := ⟨b2, o2 + k, none⟩) hb5).trans a5
          obtain ⟨P, hP⟩ : ∃ P, w5.heap.size = P := ⟨_, rfl⟩
          rw [hP] at HX6
          have hPG : G < P := by omega
          have hPm : m < P := by omega
          go_upto_region 14 with fail
          (try rw [hP])
          generalize w5.alloc (.cells #[.int .i64 rk, .int .i64 ra, .int .u64 ro, .int .u64 rv] 44) = w6 at *
          have hz6 : P < w6.heap.size := (unhide HX6).1
          have hG3 : G < w6.heap.size := by omega
          have hb6 : b2 < w6.heap.size := by omega
          clear a5 hBa HM5 HB5 HBL5 hP
          go_cut [14, 15, 16] (fun s14 s15 s16 wx => ∃ p14 p15, s14 = .pointer (some ⟨p14, 0, none⟩) ∧ s15 = .pointer (some ⟨p15, 0, none⟩) ∧ s16 = .bool rb ∧ Below w6.heap.size w6 wx ∧ w6.heap.size ≤ p14 ∧ w6.heap.size ≤ p15 ∧ Hid (Bx wx p14 (rcC t sp A len cap s n mo (rM.pl - 1) rM.tr rM.wa rM.ga rM.gg rM.oe rM.oa rM.og)) ∧ Hid (Ac4 wx p15 rk ra ro rv))
          case first =>
            have bx0 : w6.cell? ⟨G, 0, none⟩ = some (.int .i64 t) := ((unhide HB6).2 0 (by omega)).1
            have bx1 : w6.cell? ⟨G, 1, none⟩ = some (.int .i64 sp) := ((unhide HB6).2 1 (by omega)).1
            have bx2 : w6.cell? ⟨G, 2, none⟩ = some (.slice A len cap) := ((unhide HB6).2 2 (by omega)).1
            have bx3 : w6.cell? ⟨G, 3, none⟩ = some (.int .i64 s) := ((unhide HB6).2 3 (by omega)).1
            have bx4 : w6.cell? ⟨G, 4, none⟩ = some (.int .i64 n) := ((unhide HB6).2 4 (by omega)).1
            have bx5 : w6.cell? ⟨G, 5, none⟩ = some (.int .i64 mo) := ((unhide HB6).2 5 (by omega)).1
            have bx6 : w6.cell? ⟨G, 6, none⟩ = some (.int .i64 (M.pl - 1)) := ((unhide HB6).2 6 (by omega)).1
            have bx7 : w6.cell? ⟨G, 7, none⟩ = some (.int .i64 M.tr) := ((unhide HB6).2 7 (by omega)).1
            have bx8 : w6.cell? ⟨G, 8, none⟩ = some (.int .u64 M.wa) := ((unhide HB6).2 8 (by omega)).1
            have bx9 : w6.cell? ⟨G, 9, none⟩ = some (.int .i64 M.ga) := ((unhide HB6).2 9 (by omega)).1
            have bx10 : w6.cell? ⟨G, 10, none⟩ = some (.int .i64 M.gg) := ((unhide HB6).2 10 (by omega)).1
            have bx11 : w6.cell? ⟨G, 11, none⟩ = some (.int .i64 M.oe) := ((unhide HB6).2 11 (by omega)).1
            have bx12 : w6.cell? ⟨G, 12, none⟩ = some (.int .i64 M.oa) := ((unhide HB6).2 12 (by omega)).1
            have bx13 : w6.cell? ⟨G, 13, none⟩ = some (.int .i64 M.og) := ((unhide HB6).2 13 (by omega)).1
            go_region_held3 (fun W => Below w6.heap.size w6 W ∧ W.cell? ⟨b2, o2 + k, none⟩ = some (.int .u64 (z k)) ∧ W.cell? ⟨G, 0, none⟩ = some (.int .i64 t) ∧ W.cell? ⟨G, 1, none⟩ = some (.int .i64 sp) ∧ W.cell? ⟨G, 2, none⟩ = some (.slice A len cap) ∧ W.cell? ⟨G, 3, none⟩ = some (.int .i64 s) ∧ W.cell? ⟨G, 4, none⟩ = some (.int .i64 n) ∧ W.cell? ⟨G, 5, none⟩ = some (.int .i64 mo) ∧ W.cell? ⟨G, 6, none⟩ = some (.int .i64 (M.pl - 1)) ∧ W.cell? ⟨G, 7, none⟩ = some (.int .i64 M.tr) ∧ W.cell? ⟨G, 8, none⟩ = some (.int .u64 M.wa) ∧ W.cell? ⟨G, 9, none⟩ = some (.int .i64 M.ga) ∧ W.cell? ⟨G, 10, none⟩ = some (.int .i64 M.gg) ∧ W.cell? ⟨G, 11, none⟩ = some (.int .i64 M.oe) ∧ W.cell? ⟨G, 12, none⟩ = some (.int .i64 M.oa) ∧ W.cell? ⟨G, 13, none⟩ = some (.int .i64 M.og)) (((refine and_dep ?_ (fun hkq => ⟨(hkq.cell (p := ⟨b2, o2 + k, none⟩) hb6).trans a6, (hkq.cell (p := ⟨G, 0, none⟩) hG3).trans bx0, (hkq.cell (p := ⟨G, 1, none⟩) hG3).trans bx1, (hkq.cell (p := ⟨G, 2, none⟩) hG3).trans bx2, (hkq.cell (p := ⟨G, 3, none⟩) hG3).trans bx3, (hkq.cell (p := ⟨G, 4, none⟩) hG3).trans bx4, (hkq.cell (p := ⟨G, 5, none⟩) hG3).trans bx5, (hkq.cell (p := ⟨G, 6, none⟩) hG3).trans bx6, (hkq.cell (p := ⟨G, 7, none⟩) hG3).trans bx7, (hkq.cell (p := ⟨G, 8, none⟩) hG3).trans bx8, (hkq.cell (p := ⟨G, 9, none⟩) hG3).trans bx9, (hkq.cell (p := ⟨G, 10, none⟩) hG3).trans bx10, (hkq.cell (p := ⟨G, 11, none⟩) hG3).trans bx11, (hkq.cell (p := ⟨G, 12, none⟩) hG3).trans bx12, (hkq.cell (p := ⟨G, 13, none⟩) hG3).trans bx13⟩)); repeat (first | (with_reducible exact Below.refl _ _) | (with_reducible assumption) | (with_reducible refine Below.setCell ?_ (by first | (simp; done) | (simp; omega) | omega) _) | (with_reducible refine Below.alloc ?_ (by first | (simp; done) | (simp; omega) | omega) _) | (with_reducible refine Below.drew ?_) | (with_reducible refine Below.trans ?_ (Below.mono (by with_reducible assumption) (by first | (simp; done) | (simp; omega) | omega))))))
              ((go_at_call 16; refine (unhide CQ _).mono ?_; rintro e w7 ⟨rfl, hw7⟩; obtain ⟨hcw7, hfw7⟩ := bcell hw7; (try (simp only [World.size_drew, World.cell?_drew, World.frozen?_drew] at hcw7 hfw7)); have hzw7 := hw7.size; (try (simp only [World.size_alloc, World.size_setCell, World.size_drew] at hzw7)); (try (have hq0 : w6.heap.size < w7.heap.size := by with_reducible exact Nat.lt_of_succ_le hzw7)); (try (have hq2 : w6.heap.size + 1 < w7.heap.size := by with_reducible exact Nat.lt_of_succ_le hzw7)); (try (have hq1 : w6.heap.size < w7.heap.size := by with_reducible exact Nat.lt_of_succ_lt (by assumption)))))
            all_goals go_wp2_with fail
            all_goals go_meet
            all_goals refine ⟨_, _, rfl, rfl, rfl, by repeat (first | (with_reducible exact Below.refl _ _) | (with_reducible assumption) | (with_reducible refine Below.setCell ?_ (by first | (simp; done) | (simp; omega) | omega) _) | (with_reducible refine Below.alloc ?_ (by first | (simp; done) | (simp; omega) | omega) _) | (with_reducible refine Below.drew ?_) | (with_reducible refine Below.trans ?_ (Below.mono (by with_reducible assumption) (by first | (simp; done) | (simp; omega) | omega)))), ?_, ?_, ?_, ?_⟩
            all_goals clear bx0 bx1 bx2 bx3 bx4 bx5 bx6 bx7 bx8 bx9 bx10 bx11 bx12 bx13 HX6 HM6 HB6 HBL6
            all_goals first
              | exact Nat.le_refl _
              | exact Nat.le_succ _
              | exact hzw7
              | exact Nat.le_of_lt hq0
              | exact Nat.le_succ_of_le hzw7
              | exact Nat.le_succ_of_le (Nat.le_of_lt hq0)
              | (refine hide (And.intro ?_ ?_); (simp; try omega); (intro i hi; (have h : i = 0 ∨ i = 1 ∨ i = 2 ∨ i = 3 ∨ i = 4 ∨ i = 5 ∨ i = 6 ∨ i = 7 ∨ i = 8 ∨ i = 9 ∨ i = 10 ∨ i = 11 ∨ i = 12 ∨ i = 13 := by omega); rcases h with rfl | rfl | rfl | rfl | rfl | rfl | rfl | rfl | rfl | rfl | rfl | rfl | rfl | rfl <;> exact ⟨by go_simp; rfl, by go_simp⟩))
              | (refine hide ⟨?_, by go_simp, by go_simp, by go_simp, by go_simp⟩; (simp; try omega))
              | skip
          case rest =>
            obtain ⟨p14, p15, rfl, rfl, rfl, hB7, hp14, hp15, HH7, HW7⟩ := hcut
            obtain ⟨w7, hw7⟩ : ∃ w7, w7 = wc := ⟨_, rfl⟩
            subst hw7
            have HX7 := hide ((unhide HX6).keep hB7)
            have HM7 := hide ((unhide HM6).keep hB7)
            have HB7 := hide ((unhide HB6).keep hB7)
            have HBL7 := hide ((unhide HBL6).trans (hB7.mono (by omega)))
            have hz7 := hB7.size
            clear HX6 HM6 HB6 HBL6 hB7 a6 CQ
            go_wp2_with fail
            refine (outM_any ⟨t, sp, A, len, cap, s, n, mo⟩ rM m _ (unhide HM7) (unhide HOK2)).mono ?_
            rintro en w8 ⟨rfl, hw8⟩
            have hz8 := hw8.size
            have HX8 := hide ((unhide HX7).keep hw8)
            have HM8 := hide ((unhide HM7).keep hw8)
            have HB8 := hide ((unhide HB7).keep hw8)
            have HH8 := hide ((unhide HH7).keep hw8)
            have HW8 := hide ((unhide HW7).keep hw8)
            have HBL8 := hide ((unhide HBL7).trans (hw8.mono (by omega)))
            clear HX7 HM7 HB7 HH7 HW7 HBL7 hw8
            have hBa : Below w8.heap.size w8 (w8.alloc (.cells #[.int .i64 rM.oe, .int .i64 rM.oa, .int .i64 rM.og] 38)) := (Below.refl _ _).alloc (Nat.le_refl _) _
            obtain ⟨_, x0, x1, x2, x3⟩ := (unhide HX8).keep hBa
            obtain ⟨_, y0, y1, y2, y3⟩ := (unhide HW8).keep hBa
            obtain ⟨_, o0, o1, o2⟩ := Cl3.new w8 38 rM.oe rM.oa rM.og
            have HH9 := hide ((unhide HH8).keep hBa)
            have HM9 := hide ((unhide HM8).keep hBa)
            have HB9 := hide ((unhide HB8).keep hBa)
            have HBL9 := hide ((unhide HBL8).trans (hBa.mono (by omega)))
            go_upto_region 16 with fail
            generalize w8.alloc (.cells #[.int .i64 rM.oe, .int .i64 rM.oa, .int .i64 rM.og] 38) = w9 at *
            clear hBa HH8 HM8 HB8 HBL8 HX8 HW8
            have hx0 : w9.cell? ⟨p14, 0, none⟩ = some (.int .i64 t) := ((unhide HH9).2 0 (by omega)).1
            have hx1 : w9.cell? ⟨p14, 1, none⟩ = some (.int .i64 sp) := ((unhide HH9).2 1 (by omega)).1
            have hx2 : w9.cell? ⟨p14, 2, none⟩ = some (.slice A len cap) := ((unhide HH9).2 2 (by omega)).1
            have hx3 : w9.cell? ⟨p14, 3, none⟩ = some (.int .i64 s) := ((unhide HH9).2 3 (by omega)).1
            have hx4 : w9.cell? ⟨p14, 4, none⟩ = some (.int .i64 n) := ((unhide HH9).2 4 (by omega)).1
            have hx5 : w9.cell? ⟨p14, 5, none⟩ = some (.int .i64 mo) := ((unhide HH9).2 5 (by omega)).1
            have hx6 : w9.cell? ⟨p14, 6, none⟩ = some (.int .i64 (rM.pl - 1)) := ((unhide HH9).2 6 (by omega)).1
            have hx7 : w9.cell? ⟨p14, 7, none⟩ = some (.int .i64 rM.tr) := ((unhide HH9).2 7 (by omega)).1
            have hx8 : w9.cell? ⟨p14, 8, none⟩ = some (.int .u64 rM.wa) := ((unhide HH9).2 8 (by omega)).1
            have hx9 : w9.cell? ⟨p14, 9, none⟩ = some (.int .i64 rM.ga) := ((unhide HH9).2 9 (by omega)).1
            have hx10 : w9.cell? ⟨p14, 10, none⟩ = some (.int .i64 rM.gg) := ((unhide HH9).2 10 (by omega)).1
            have hx11 : w9.cell? ⟨p14, 11, none⟩ = some (.int .i64 rM.oe) := ((unhide HH9).2 11 (by omega)).1
            have hx12 : w9.cell? ⟨p14, 12, none⟩ = some (.int .i64 rM.oa) := ((unhide HH9).2 12 (by omega)).1
            have hx13 : w9.cell? ⟨p14, 13, none⟩ = some (.int .i64 rM.og) := ((unhide HH9).2 13 (by omega)).1
            go_wp2_with fail
            refine (ended_any t sp A len cap s n mo (rM.pl - 1) rM.tr rM.wa rM.ga rM.gg rM.oe rM.oa rM.og _).mono ?_
            rintro en w10 ⟨rfl, hw10⟩
            have HM10 := hide ((unhide HM9).keep hw10)
            have HB10 := hide ((unhide HB9).keep hw10)
            have HH10 := hide ((unhide HH9).keep hw10)
            have HBL10 := hide ((unhide HBL9).trans (hw10.mono (unhide HBL9).size))
            have ho0 : w8.heap.size < w9.heap.size := by rcases Nat.lt_or_ge w8.heap.size w9.heap.size with h | h; exact h; exact absurd o0 (by rw [World.cell?]; simp [Array.getElem?_eq_none h])
            have q0 := (hw10.cell (p := ⟨w8.heap.size, 0, none⟩) ho0).trans o0
            have q1 := (hw10.cell (p := ⟨w8.heap.size, 1, none⟩) ho0).trans o1
            have q2 := (hw10.cell (p := ⟨w8.heap.size, 2, none⟩) ho0).trans o2
            clear hx0 hx1 hx2 hx3 hx4 hx5 hx6 hx7 hx8 hx9 hx10 hx11 hx12 hx13 x0 x1 x2 x3 y0 y1 y2 y3 o0 o1 o2 hw10 HM9 HB9 HH9 HBL9
            have hy0 : w10.cell? ⟨p14, 0, none⟩ = some (.int .i64 t) := ((unhide HH10).2 0 (by omega)).1
            have hy1 : w10.cell? ⟨p14, 1, none⟩ = some (.int .i64 sp) := ((unhide HH10).2 1 (by omega)).1
            have hy2 : w10.cell? ⟨p14, 2, none⟩ = some (.slice A len cap) := ((unhide HH10).2 2 (by omega)).1
            have hy3 : w10.cell? ⟨p14, 3, none⟩ = some (.int .i64 s) := ((unhide HH10).2 3 (by omega)).1
            have hy4 : w10.cell? ⟨p14, 4, none⟩ = some (.int .i64 n) := ((unhide HH10).2 4 (by omega)).1
            have hy5 : w10.cell? ⟨p14, 5, none⟩ = some (.int .i64 mo) := ((unhide HH10).2 5 (by omega)).1
            have hy6 : w10.cell? ⟨p14, 6, none⟩ = some (.int .i64 (rM.pl - 1)) := ((unhide HH10).2 6 (by omega)).1
            have hy7 : w10.cell? ⟨p14, 7, none⟩ = some (.int .i64 rM.tr) := ((unhide HH10).2 7 (by omega)).1
            have hy8 : w10.cell? ⟨p14, 8, none⟩ = some (.int .u64 rM.wa) := ((unhide HH10).2 8 (by omega)).1
            have hy9 : w10.cell? ⟨p14, 9, none⟩ = some (.int .i64 rM.ga) := ((unhide HH10).2 9 (by omega)).1
            have hy10 : w10.cell? ⟨p14, 10, none⟩ = some (.int .i64 rM.gg) := ((unhide HH10).2 10 (by omega)).1
            have hy11 : w10.cell? ⟨p14, 11, none⟩ = some (.int .i64 rM.oe) := ((unhide HH10).2 11 (by omega)).1
            have hy12 : w10.cell? ⟨p14, 12, none⟩ = some (.int .i64 rM.oa) := ((unhide HH10).2 12 (by omega)).1
            have hy13 : w10.cell? ⟨p14, 13, none⟩ = some (.int .i64 rM.og) := ((unhide HH10).2 13 (by omega)).1
            have gc0 : w10.cell? ⟨G, 0, none⟩ = some (.int .i64 t) := ((unhide HB10).2 0 (by omega)).1
            have gf0 : w10.frozen? ⟨G, 0, none⟩ = false := ((unhide HB10).2 0 (by omega)).2
            have gc1 : w10.cell? ⟨G, 1, none⟩ = some (.int .i64 sp) := ((unhide HB10).2 1 (by omega)).1
            have gf1 : w10.frozen? ⟨G, 1, none⟩ = false := ((unhide HB10).2 1 (by omega)).2
            have gc2 : w10.cell? ⟨G, 2, none⟩ = some (.slice A len cap) := ((unhide HB10).2 2 (by omega)).1
            have gf2 : w10.frozen? ⟨G, 2, none⟩ = false := ((unhide HB10).2 2 (by omega)).2
            have gc3 : w10.cell? ⟨G, 3, none⟩ = some (.int .i64 s) := ((unhide HB10).2 3 (by omega)).1
            have gf3 : w10.frozen? ⟨G, 3, none⟩ = false := ((unhide HB10).2 3 (by omega)).2
            have gc4 : w10.cell? ⟨G, 4, none⟩ = some (.int .i64 n) := ((unhide HB10).2 4 (by omega)).1
            have gf4 : w10.frozen? ⟨G, 4, none⟩ = false := ((unhide HB10).2 4 (by omega)).2
            have gc5 : w10.cell? ⟨G, 5, none⟩ = some (.int .i64 mo) := ((unhide HB10).2 5 (by omega)).1
            have gf5 : w10.frozen? ⟨G, 5, none⟩ = false := ((unhide HB10).2 5 (by omega)).2
            have gc6 : w10.cell? ⟨G, 6, none⟩ = some (.int .i64 (M.pl - 1)) := ((unhide HB10).2 6 (by omega)).1
            have gf6 : w10.frozen? ⟨G, 6, none⟩ = false := ((unhide HB10).2 6 (by omega)).2
            have gc7 : w10.cell? ⟨G, 7, none⟩ = some (.int .i64 M.tr) := ((unhide HB10).2 7 (by omega)).1
            have gf7 : w10.frozen? ⟨G, 7, none⟩ = false := ((unhide HB10).2 7 (by omega)).2
            have gc8 : w10.cell? ⟨G, 8, none⟩ = some (.int .u64 M.wa) := ((unhide HB10).2 8 (by omega)).1
            have gf8 : w10.frozen? ⟨G, 8, none⟩ = false := ((unhide HB10).2 8 (by omega)).2
            have gc9 : w10.cell? ⟨G, 9, none⟩ = some (.int .i64 M.ga) := ((unhide HB10).2 9 (by omega)).1
            have gf9 : w10.frozen? ⟨G, 9, none⟩ = false := ((unhide HB10).2 9 (by omega)).2
            have gc10 : w10.cell? ⟨G, 10, none⟩ = some (.int .i64 M.gg) := ((unhide HB10).2 10 (by omega)).1
            have gf10 : w10.frozen? ⟨G, 10, none⟩ = false := ((unhide HB10).2 10 (by omega)).2
            have gc11 : w10.cell? ⟨G, 11, none⟩ = some (.int .i64 M.oe) := ((unhide HB10).2 11 (by omega)).1
            have gf11 : w10.frozen? ⟨G, 11, none⟩ = false := ((unhide HB10).2 11 (by omega)).2
            have gc12 : w10.cell? ⟨G, 12, none⟩ = some (.int .i64 M.oa) := ((unhide HB10).2 12 (by omega)).1
            have gf12 : w10.frozen? ⟨G, 12, none⟩ = false := ((unhide HB10).2 12 (by omega)).2
            have gc13 : w10.cell? ⟨G, 13, none⟩ = some (.int .i64 M.og) := ((unhide HB10).2 13 (by omega)).1
            have gf13 : w10.frozen? ⟨G, 13, none⟩ = false := ((unhide HB10).2 13 (by omega)).2
            have HB11 := hide (Bx.store (unhide HB10) t sp A len cap s n mo (rM.pl - 1) rM.tr rM.wa rM.ga rM.gg rM.oe rM.oa rM.og)
            have HC11 : Hid (Chg (fun i => i = G) w10 ((((((((((((((w10.setCell ⟨G, 0, none⟩ (.int .i64 t)).setCell ⟨G, 1, none⟩ (.int .i64 sp)).setCell ⟨G, 2, none⟩ (.slice A len cap)).setCell ⟨G, 3, none⟩ (.int .i64 s)).setCell ⟨G, 4, none⟩ (.int .i64 n)).setCell ⟨G, 5, none⟩ (.int .i64 mo)).setCell ⟨G, 6, none⟩ (.int .i64 (rM.pl - 1))).setCell ⟨G, 7, none⟩ (.int .i64 rM.tr)).setCell ⟨G, 8, none⟩ (.int .u64 rM.wa)).setCell ⟨G, 9, none⟩ (.int .i64 rM.ga)).setCell ⟨G, 10, none⟩ (.int .i64 rM.gg)).setCell ⟨G, 11, none⟩ (.int .i64 rM.oe)).setCell ⟨G, 12, none⟩ (.int .i64 rM.oa)).setCell ⟨G, 13, none⟩ (.int .i64 rM.og))) := hide (Chg.store (S := fun i => i = G) (Chg.refl _ w10) (.inr rfl) _ _ _ _ _ _ _ _ _ _ _ _ _ _)
            have HM11 := hide ((unhide HM10).chg (unhide HC11) (by omega))
            have HBL11 := hide ((unhide HBL10).trans ((unhide HC11).below (n := w.heap.size) (fun i e => by subst e; exact hGw) (unhide HBL10).size))
            cases rb with
            | true =>
              have HT11 := hide (show ToldR ⟨t, sp, A, len, cap, s, n, mo⟩ S w m G ((((((((((((((w10.setCell ⟨G, 0, none⟩ (.int .i64 t)).setCell ⟨G, 1, none⟩ (.int .i64 sp)).setCell ⟨G, 2, none⟩ (.slice A len cap)).setCell ⟨G, 3, none⟩ (.int .i64 s)).setCell ⟨G, 4, none⟩ (.int .i64 n)).setCell ⟨G, 5, none⟩ (.int .i64 mo)).setCell ⟨G, 6, none⟩ (.int .i64 (rM.pl - 1))).setCell ⟨G, 7, none⟩ (.int .i64 rM.tr)).setCell ⟨G, 8, none⟩ (.int .u64 rM.wa)).setCell ⟨G, 9, none⟩ (.int .i64 rM.ga)).setCell ⟨G, 10, none⟩ (.int .i64 rM.gg)).setCell ⟨G, 11, none⟩ (.int .i64 rM.oe)).setCell ⟨G, 12, none⟩ (.int .i64 rM.oa)).setCell ⟨G, 13, none⟩ (.int .i64 rM.og)) rM (c + 1) from ⟨unhide HOK2, by simpa using unhide HCN2, unhide HM11, unhide HB11, unhide HBL11⟩)
              clear HB11 HC11 HM11 HBL11 HM10 HB10 HH10 HBL10
              go_wp2
              go_roundw
              case measure => simp [intOf]; omega
              case rel => exact ⟨k + 1, c + 1, rM, by omega, by go_num, by go_num, HT11⟩
            | false =>
              have HT11 := hide (show ToldR ⟨t, sp, A, len, cap, s, n, mo⟩ S w m G ((((((((((((((w10.setCell ⟨G, 0, none⟩ (.int .i64 t)).setCell ⟨G, 1, none⟩ (.int .i64 sp)).setCell ⟨G, 2, none⟩ (.slice A len cap)).setCell ⟨G, 3, none⟩ (.int .i64 s)).setCell ⟨G, 4, none⟩ (.int .i64 n)).setCell ⟨G, 5, none⟩ (.int .i64 mo)).setCell ⟨G, 6, none⟩ (.int .i64 (rM.pl - 1))).setCell ⟨G, 7, none⟩ (.int .i64 rM.tr)).setCell ⟨G, 8, none⟩ (.int .u64 rM.wa)).setCell ⟨G, 9, none⟩ (.int .i64 rM.ga)).setCell ⟨G, 10, none⟩ (.int .i64 rM.gg)).setCell ⟨G, 11, none⟩ (.int .i64 rM.oe)).setCell ⟨G, 12, none⟩ (.int .i64 rM.oa)).setCell ⟨G, 13, none⟩ (.int .i64 rM.og)) rM c from ⟨unhide HOK2, by simpa using unhide HCN2, unhide HM11, unhide HB11, unhide HBL11⟩)
              clear HB11 HC11 HM11 HBL11 HM10 HB10 HH10 HBL10
              go_wp2
              go_roundw
              case measure => simp [intOf]; omega
              case rel => exact ⟨k + 1, c, rM, by omega, by go_num, rfl, HT11⟩
        · have hge : ¬ (k : Int) < (len2 : Int) := by omega
          obtain ⟨hok, hcnt, hM, hB, hBL⟩ := unhide HT
          have hc3 := hcnt.2.2.2
          have hc3' : (c : Int) ≤ 3 := by omega
          have HBL := hide hBL
          clear hok hcnt hM hB hBL HT
          go_wp2_with fail
          refine (works14_any _).mono ?_
          rintro en w5 ⟨rfl, hw5⟩
          have B5 := (unhide HBL).trans (hw5.mono (unhide HBL).size)
          go_wp2
          go_ret
          exact ⟨rfl, B5⟩
end Go.Proofs.Ytnnllhlcpmmcaaa
