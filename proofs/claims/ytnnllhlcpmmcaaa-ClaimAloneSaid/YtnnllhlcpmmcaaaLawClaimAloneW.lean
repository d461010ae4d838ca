/- The walk of ClaimAlone: it returns true. -/
import Derived.Test.YtnnllhlcpmmcaaaClU
import Derived.Test.YtnnllhlcpmmcaaaArP
import Derived.Deep.DeepCutAuto
namespace Go.Proofs.Ytnnllhlcpmmcaaa
set_option linter.unusedVariables false
set_option linter.unusedSimpArgs false
open Go.RowKit

theorem Fr.chg {S : Nat → Prop} {W U : World} {p : Nat} {fs fl fh fo : Int} (H : Fr W p fs fl fh fo) (h : Chg S W U) (hS : ¬ S p) : Fr U p fs fl fh fo := by
  have e : ∀ j, U.cell? ⟨p, j, none⟩ = W.cell? ⟨p, j, none⟩ := fun j => h.cell H.2 hS
  have h1 := H.2
  have h2 := h.size
  unfold Fr at H ⊢
  simp only [e]
  exact ⟨H.1, by omega⟩

theorem far_of14 {w : World} {t sp s n mo : Int} {A : Option Addr} {len cap : Nat} {S : Nat → ByteArray} (H : ShOk w A len S) (hl : 0 < len) : ∀ m, w.heap.size ≤ m → Ask.far ⟨t, sp, A, len, cap, s, n, mo⟩ m := fun m hm b o e => by
  obtain ⟨b', o', e', hlt, _⟩ := H hl
  have e4 : A = some ⟨b, o, none⟩ := e
  rw [e'] at e4
  injection e4 with e4
  injection e4 with e4 _ _
  omega

theorem do_two (n : Nat) (hn : 2 ≤ n) (xs : Nat → Int) (v : Int) : doX n xs 2 1 0 v = upd xs 1 v := by
  have h : doE n 2 1 0 v = 0 := by
    unfold doE
    rw [if_pos (accB_iff.2 (by omega)), if_neg (by decide), if_neg (by omega)]
  unfold doX; rw [if_pos ⟨h, .inl rfl⟩]; rfl

theorem alone_claim (q : Ask) (N : Nat) (hn : 2 ≤ N) (ys : Nat → Int) (fs fl fh fo K cs cl ch co ca ce : Int) (hx : ys 1 = frontW fs fl fh fo) (hr : rightB fs fl fh fo = true) (hle : fh ≤ q.sp) (hs : q.s = 0 ∨ q.s = 1) (hK : lkN q.s q.n q.mo fs fl fh fo = K) (h1 : 1 ≤ K)
    (hcl : claimF fs fl fh fo q.s K = ⟨cs, cl, ch, co, ca, ce⟩) :
    (ce = 0 ∧ 0 ≤ ca ∧ ca ≤ 4096 ∧ aloneF q N 60 newMc ys 0 0 = ⟨0, bas q.t q.sp q.s + ca, K, 2, ⟨4, 0, ys 1, bas q.t q.sp q.s + ca, K, 0, bas q.t q.sp q.s + ca, K⟩, upd ys 1 (frontW cs cl ch co)⟩) ∨
    (ce ≠ 0 ∧ aloneF q N 60 newMc ys 0 0 = ⟨184, 0, 0, 1, ⟨4, 0, 0, 0, 0, 184, 0, 0⟩, ys⟩) := by
  have hb := rightB_iff.1 hr
  by_cases hf : K ≤ fh - fl - fo
  · left
    have e := alone_fit q N hn ys fs fl fh fo K hx hr hle hs hK ⟨h1, hf⟩
    rw [claim_yes hr hs ⟨h1, hf⟩] at hcl
    by_cases e0 : q.s = fs
    · simp only [if_pos e0] at hcl e
      injection hcl with a1 a2 a3 a4 a5 a6
      subst a1 a2 a3 a4 a5 a6
      exact ⟨rfl, by omega, by omega, e⟩
    · simp only [if_neg e0] at hcl e
      injection hcl with a1 a2 a3 a4 a5 a6
      subst a1 a2 a3 a4 a5 a6
      exact ⟨rfl, by omega, by omega, e⟩
  · right
    have e := alone_unfit q N hn ys fs fl fh fo K hx hr hle hs hK h1 (by omega)
    rw [claim_no hr hs h1 (by omega)] at hcl
    injection hcl with a1 a2 a3 a4 a5 a6
    exact ⟨by omega, e⟩

set_option maxRecDepth 100000 in
set_option maxHeartbeats 8000000 in
theorem claimAlone_walk (t : Int) (_ : (Lit.int .i64 t).wf = true) (sp : Int) (_ : (Lit.int .i64 sp).wf = true) (A : Option Addr) (len cap : Nat) (fs : Int) (_ : (Lit.int .i64 fs).wf = true) (fl : Int) (_ : (Lit.int .i64 fl).wf = true) (fh : Int) (_ : (Lit.int .i64 fh).wf = true) (fo : Int) (_ : (Lit.int .i64 fo).wf = true) (s : Int) (_ : (Lit.int .i64 s).wf = true) (n : Int) (_ : (Lit.int .i64 n).wf = true) (mo : Int) (_ : (Lit.int .i64 mo).wf = true) (w : World) (hr : RowOk w 5 [.str] A len cap) :
    Calls Try.prog 8 #[.agg #[.int .i64 t, .int .i64 sp, .slice A len cap], .agg #[.int .i64 fs, .int .i64 fl, .int .i64 fh, .int .i64 fo], .agg #[.int .i64 s, .int .i64 n, .int .i64 mo]] w fun e w' => e = .returned (.bool true) ∧ Below w.heap.size w w' := by
  have hm := hr.1
  have hm2 := hr.2.1
  unfold maxLen at hm2
  obtain ⟨S, H, hS⟩ := ShOk.of_row hr
  have hSm : ∀ i, i < len → (S i).size ≤ 9223372036854775807 := fun i hi => by have := hS i hi; unfold maxLen at this; exact this
  have cf := hide (fun W (hW : Below w.heap.size w W) => few14_any t sp A len cap S (by omega) W (H.keep hW) hS)
  have CR := hide (fun W (hW : Below w.heap.size w W) => right14_any t sp A len cap S (by omega) hSm s n mo W (H.keep hW))
  have CG := hide (fun W => refRight_any fs fl fh fo W)
  clear hr
  cases ef : fewB len S with
  | false =>
    rw [ef] at cf
    clear ef H hS hSm CR CG
    go_enter Try.func8, Try.ntmps8
    go_wp2_with fail
    refine (unhide cf _ (by repeat (first | exact Below.refl _ _ | assumption | refine Below.alloc ?_ (by first | (simp; done) | (simp; omega) | omega) _ | refine Below.setCell ?_ (by first | (simp; done) | (simp; omega) | omega) _ | apply Below.drew | refine Below.trans ?_ (Below.mono (by assumption) (by first | (simp; done) | (simp; omega) | omega))))).mono ?_
    rintro e w1 ⟨rfl, hw1⟩; obtain ⟨hcw1, hfw1⟩ := bcell hw1; (try (simp only [World.size_drew, World.cell?_drew, World.frozen?_drew] at hcw1 hfw1)); have hzw1 := hw1.size; (try (simp only [World.size_alloc, World.size_setCell, World.size_drew] at hzw1)); (try (have hzw1_w_0 : w.heap.size < w1.heap.size := by omega)); (try (have hzw1_w_1 : w.heap.size + 1 < w1.heap.size := by omega)); (try (have hzw1_w_2 : w.heap.size + 1 + 1 < w1.heap.size := by omega)); (try (have hzw1_w_3 : w.heap.size + 1 + 1 + 1 < w1.heap.size := by omega)); (try (have hyw1_w : w.heap.size ≤ w1.heap.size := by omega)); (try (have hyw1_wa : w.heap.size + 1 ≤ w1.heap.size := by omega))
    have B1 : Below w.heap.size w w1 := by repeat (first | exact Below.refl _ _ | assumption | refine Below.alloc ?_ (by first | (simp; done) | (simp; omega) | omega) _ | refine Below.setCell ?_ (by first | (simp; done) | (simp; omega) | omega) _ | apply Below.drew | refine Below.trans ?_ (Below.mono (by assumption) (by first | (simp; done) | (simp; omega) | omega)))
    have HP1 : Hid (BoxP w1 w.heap.size t sp A len cap) := hide ⟨by omega, by go_simp, by go_simp, by go_simp⟩
    have HF1 : Hid (Fr w1 (w.heap.size + 1) fs fl fh fo) := hide ⟨⟨by go_simp, by go_simp, by go_simp, by go_simp⟩, by omega⟩
    have HX1 : Hid (Cl3 w1 (w.heap.size + 1 + 1) s n mo) := hide ⟨by omega, by go_simp, by go_simp, by go_simp⟩
    clear hcw1 hfw1 hw1
    obtain ⟨_, p0, p1, p2⟩ := unhide HP1
    obtain ⟨⟨f0, f1, f2, f3⟩, _⟩ := unhide HF1
    obtain ⟨_, x0, x1, x2⟩ := unhide HX1
    go_wp2_with fail
    refine (works14_any _).mono ?_
    rintro en w9 ⟨rfl, hw9⟩
    have B9 := B1.trans (hw9.mono B1.size)
    go_wp2
    go_ret
    exact ⟨rfl, B9⟩
  | true =>
    rw [ef] at cf
    by_cases h100 : 100 < sp
    · clear ef H hS hSm CR CG
      go_enter Try.func8, Try.ntmps8
      go_wp2_with fail
      refine (unhide cf _ (by repeat (first | exact Below.refl _ _ | assumption | refine Below.alloc ?_ (by first | (simp; done) | (simp; omega) | omega) _ | refine Below.setCell ?_ (by first | (simp; done) | (simp; omega) | omega) _ | apply Below.drew | refine Below.trans ?_ (Below.mono (by assumption) (by first | (simp; done) | (simp; omega) | omega))))).mono ?_
      rintro e w1 ⟨rfl, hw1⟩; obtain ⟨hcw1, hfw1⟩ := bcell hw1; (try (simp only [World.size_drew, World.cell?_drew, World.frozen?_drew] at hcw1 hfw1)); have hzw1 := hw1.size; (try (simp only [World.size_alloc, World.size_setCell, World.size_drew] at hzw1)); (try (have hzw1_w_0 : w.heap.size < w1.heap.size := by omega)); (try (have hzw1_w_1 : w.heap.size + 1 < w1.heap.size := by omega)); (try (have hzw1_w_2 : w.heap.size + 1 + 1 < w1.heap.size := by omega)); (try (have hzw1_w_3 : w.heap.size + 1 + 1 + 1 < w1.heap.size := by omega)); (try (have hyw1_w : w.heap.size ≤ w1.heap.size := by omega)); (try (have hyw1_wa : w.heap.size + 1 ≤ w1.heap.size := by omega))
      have B1 : Below w.heap.size w w1 := by repeat (first | exact Below.refl _ _ | assumption | refine Below.alloc ?_ (by first | (simp; done) | (simp; omega) | omega) _ | refine Below.setCell ?_ (by first | (simp; done) | (simp; omega) | omega) _ | apply Below.drew | refine Below.trans ?_ (Below.mono (by assumption) (by first | (simp; done) | (simp; omega) | omega)))
      have HP1 : Hid (BoxP w1 w.heap.size t sp A len cap) := hide ⟨by omega, by go_simp, by go_simp, by go_simp⟩
      have HF1 : Hid (Fr w1 (w.heap.size + 1) fs fl fh fo) := hide ⟨⟨by go_simp, by go_simp, by go_simp, by go_simp⟩, by omega⟩
      have HX1 : Hid (Cl3 w1 (w.heap.size + 1 + 1) s n mo) := hide ⟨by omega, by go_simp, by go_simp, by go_simp⟩
      clear hcw1 hfw1 hw1
      obtain ⟨_, p0, p1, p2⟩ := unhide HP1
      obtain ⟨⟨f0, f1, f2, f3⟩, _⟩ := unhide HF1
      obtain ⟨_, x0, x1, x2⟩ := unhide HX1
      go_wp2_with fail
      refine (works14_any _).mono ?_
      rintro en w9 ⟨rfl, hw9⟩
      have B9 := B1.trans (hw9.mono B1.size)
      go_wp2
      go_ret
      exact ⟨rfl, B9⟩
    cases er : (okPB t sp len S && (decide (s = 0 ∨ s = 1) && asN n mo)) with
    | false =>
      rw [er] at CR
      clear ef H hS hSm er CG
      go_enter Try.func8, Try.ntmps8
      go_wp2_with fail
      refine (unhide cf _ (by repeat (first | exact Below.refl _ _ | assumption | refine Below.alloc ?_ (by first | (simp; done) | (simp; omega) | omega) _ | refine Below.setCell ?_ (by first | (simp; done) | (simp; omega) | omega) _ | apply Below.drew | refine Below.trans ?_ (Below.mono (by assumption) (by first | (simp; done) | (simp; omega) | omega))))).mono ?_
      rintro e w1 ⟨rfl, hw1⟩; obtain ⟨hcw1, hfw1⟩ := bcell hw1; (try (simp only [World.size_drew, World.cell?_drew, World.frozen?_drew] at hcw1 hfw1)); have hzw1 := hw1.size; (try (simp only [World.size_alloc, World.size_setCell, World.size_drew] at hzw1)); (try (have hzw1_w_0 : w.heap.size < w1.heap.size := by omega)); (try (have hzw1_w_1 : w.heap.size + 1 < w1.heap.size := by omega)); (try (have hzw1_w_2 : w.heap.size + 1 + 1 < w1.heap.size := by omega)); (try (have hzw1_w_3 : w.heap.size + 1 + 1 + 1 < w1.heap.size := by omega)); (try (have hyw1_w : w.heap.size ≤ w1.heap.size := by omega)); (try (have hyw1_wa : w.heap.size + 1 ≤ w1.heap.size := by omega))
      have B1 : Below w.heap.size w w1 := by repeat (first | exact Below.refl _ _ | assumption | refine Below.alloc ?_ (by first | (simp; done) | (simp; omega) | omega) _ | refine Below.setCell ?_ (by first | (simp; done) | (simp; omega) | omega) _ | apply Below.drew | refine Below.trans ?_ (Below.mono (by assumption) (by first | (simp; done) | (simp; omega) | omega)))
      have HP1 : Hid (BoxP w1 w.heap.size t sp A len cap) := hide ⟨by omega, by go_simp, by go_simp, by go_simp⟩
      have HF1 : Hid (Fr w1 (w.heap.size + 1) fs fl fh fo) := hide ⟨⟨by go_simp, by go_simp, by go_simp, by go_simp⟩, by omega⟩
      have HX1 : Hid (Cl3 w1 (w.heap.size + 1 + 1) s n mo) := hide ⟨by omega, by go_simp, by go_simp, by go_simp⟩
      clear hcw1 hfw1 hw1
      obtain ⟨_, p0, p1, p2⟩ := unhide HP1
      obtain ⟨⟨f0, f1, f2, f3⟩, _⟩ := unhide HF1
      obtain ⟨_, x0, x1, x2⟩ := unhide HX1
      go_wp2_with fail
      refine (unhide CR _ B1).mono ?_
      rintro en w2 ⟨rfl, hw2⟩
      have B2 := B1.trans (hw2.mono B1.size)
      clear hw2 p0 p1 p2 f0 f1 f2 f3 x0 x1 x2
      go_wp2_with fail
      refine (works14_any _).mono ?_
      rintro en w9 ⟨rfl, hw9⟩
      have B9 := B2.trans (hw9.mono B2.size)
      go_wp2
      go_ret
      exact ⟨rfl, B9⟩
    | true =>
      rw [er] at CR
      simp only [Bool.and_eq_true, decide_eq_true_eq] at er
      obtain ⟨e1, e2, e3⟩ := er
      cases eg : rightB fs fl fh fo with
      | false =>
        rw [eg] at CG
        clear ef H hS hSm e1 e2 e3 eg
        go_enter Try.func8, Try.ntmps8
        go_wp2_with fail
        refine (unhide cf _ (by repeat (first | exact Below.refl _ _ | assumption | refine Below.alloc ?_ (by first | (simp; done) | (simp; omega) | omega) _ | refine Below.setCell ?_ (by first | (simp; done) | (simp; omega) | omega) _ | apply Below.drew | refine Below.trans ?_ (Below.mono (by assumption) (by first | (simp; done) | (simp; omega) | omega))))).mono ?_
        rintro e w1 ⟨rfl, hw1⟩; obtain ⟨hcw1, hfw1⟩ := bcell hw1; (try (simp only [World.size_drew, World.cell?_drew, World.frozen?_drew] at hcw1 hfw1)); have hzw1 := hw1.size; (try (simp only [World.size_alloc, World.size_setCell, World.size_drew] at hzw1)); (try (have hzw1_w_0 : w.heap.size < w1.heap.size := by omega)); (try (have hzw1_w_1 : w.heap.size + 1 < w1.heap.size := by omega)); (try (have hzw1_w_2 : w.heap.size + 1 + 1 < w1.heap.size := by omega)); (try (have hzw1_w_3 : w.heap.size + 1 + 1 + 1 < w1.heap.size := by omega)); (try (have hyw1_w : w.heap.size ≤ w1.heap.size := by omega)); (try (have hyw1_wa : w.heap.size + 1 ≤ w1.heap.size := by omega))
        have B1 : Below w.heap.size w w1 := by repeat (first | exact Below.refl _ _ | assumption | refine Below.alloc ?_ (by first | (simp; done) | (simp; omega) | omega) _ | refine Below.setCell ?_ (by first | (simp; done) | (simp; omega) | omega) _ | apply Below.drew | refine Below.trans ?_ (Below.mono (by assumption) (by first | (simp; done) | (simp; omega) | omega)))
        have HP1 : Hid (BoxP w1 w.heap.size t sp A len cap) := hide ⟨by omega, by go_simp, by go_simp, by go_simp⟩
        have HF1 : Hid (Fr w1 (w.heap.size + 1) fs fl fh fo) := hide ⟨⟨by go_simp, by go_simp, by go_simp, by go_simp⟩, by omega⟩
        have HX1 : Hid (Cl3 w1 (w.heap.size + 1 + 1) s n mo) := hide ⟨by omega, by go_simp, by go_simp, by go_simp⟩
        clear hcw1 hfw1 hw1
        obtain ⟨_, p0, p1, p2⟩ := unhide HP1
        obtain ⟨⟨f0, f1, f2, f3⟩, _⟩ := unhide HF1
        obtain ⟨_, x0, x1, x2⟩ := unhide HX1
        go_wp2_with fail
        refine (unhide CR _ B1).mono ?_
        rintro en w2 ⟨rfl, hw2⟩
        have B2 := B1.trans (hw2.mono B1.size)
        have HP2 := hide ((unhide HP1).keep hw2)
        have HF2 := hide ((unhide HF1).keep hw2)
        have HX2 := hide ((unhide HX1).keep hw2)
        clear hw2 HP1 HF1 HX1 p0 p1 p2 f0 f1 f2 f3 x0 x1 x2
        obtain ⟨_, p0, p1, p2⟩ := unhide HP2
        obtain ⟨⟨f0, f1, f2, f3⟩, _⟩ := unhide HF2
        obtain ⟨_, x0, x1, x2⟩ := unhide HX2
        go_wp2_with fail
        refine (unhide CG _).mono ?_
        rintro en w3 ⟨rfl, hw3⟩
        have B3 := B2.trans (hw3.mono B2.size)
        go_wp2_with fail
        refine (works14_any _).mono ?_
        rintro en w9 ⟨rfl, hw9⟩
        have B9 := B3.trans (hw9.mono B3.size)
        go_wp2
        go_ret
        exact ⟨rfl, B9⟩
      | true =>
        rw [eg] at CG
        by_cases hgt : sp < fh
        · clear ef H hS hSm e1 e2 e3 eg
          go_enter Try.func8, Try.ntmps8
          go_wp2_with fail
          refine (unhide cf _ (by repeat (first | exact Below.refl _ _ | assumption | refine Below.alloc ?_ (by first | (simp; done) | (simp; omega) | omega) _ | refine Below.setCell ?_ (by first | (simp; done) | (simp; omega) | omega) _ | apply Below.drew | refine Below.trans ?_ (Below.mono (by assumption) (by first | (simp; done) | (simp; omega) | omega))))).mono ?_
          rintro e w1 ⟨rfl, hw1⟩; obtain ⟨hcw1, hfw1⟩ := bcell hw1; (try (simp only [World.size_drew, World.cell?_drew, World.frozen?_drew] at hcw1 hfw1)); have hzw1 := hw1.size; (try (simp only [World.size_alloc, World.size_setCell, World.size_drew] at hzw1)); (try (have hzw1_w_0 : w.heap.size < w1.heap.size := by omega)); (try (have hzw1_w_1 : w.heap.size + 1 < w1.heap.size := by omega)); (try (have hzw1_w_2 : w.heap.size + 1 + 1 < w1.heap.size := by omega)); (try (have hzw1_w_3 : w.heap.size + 1 + 1 + 1 < w1.heap.size := by omega)); (try (have hyw1_w : w.heap.size ≤ w1.heap.size := by omega)); (try (have hyw1_wa : w.heap.size + 1 ≤ w1.heap.size := by omega))
          have B1 : Below w.heap.size w w1 := by repeat (first | exact Below.refl _ _ | assumption | refine Below.alloc ?_ (by first | (simp; done) | (simp; omega) | omega) _ | refine Below.setCell ?_ (by first | (simp; done) | (simp; omega) | omega) _ | apply Below.drew | refine Below.trans ?_ (Below.mono (by assumption) (by first | (simp; done) | (simp; omega) | omega)))
          have HP1 : Hid (BoxP w1 w.heap.size t sp A len cap) := hide ⟨by omega, by go_simp, by go_simp, by go_simp⟩
          have HF1 : Hid (Fr w1 (w.heap.size + 1) fs fl fh fo) := hide ⟨⟨by go_simp, by go_simp, by go_simp, by go_simp⟩, by omega⟩
          have HX1 : Hid (Cl3 w1 (w.heap.size + 1 + 1) s n mo) := hide ⟨by omega, by go_simp, by go_simp, by go_simp⟩
          clear hcw1 hfw1 hw1
          obtain ⟨_, p0, p1, p2⟩ := unhide HP1
          obtain ⟨⟨f0, f1, f2, f3⟩, _⟩ := unhide HF1
          obtain ⟨_, x0, x1, x2⟩ := unhide HX1
          go_wp2_with fail
          refine (unhide CR _ B1).mono ?_
          rintro en w2 ⟨rfl, hw2⟩
          have B2 := B1.trans (hw2.mono B1.size)
          have HP2 := hide ((unhide HP1).keep hw2)
          have HF2 := hide ((unhide HF1).keep hw2)
          have HX2 := hide ((unhide HX1).keep hw2)
          clear hw2 HP1 HF1 HX1 p0 p1 p2 f0 f1 f2 f3 x0 x1 x2
          obtain ⟨_, p0, p1, p2⟩ := unhide HP2
          obtain ⟨⟨f0, f1, f2, f3⟩, _⟩ := unhide HF2
          obtain ⟨_, x0, x1, x2⟩ := unhide HX2
          go_wp2_with fail
          refine (unhide CG _).mono ?_
          rintro en w3 ⟨rfl, hw3⟩
          have B3 := B2.trans (hw3.mono B2.size)
          have HP3 := hide ((unhide HP2).keep hw3)
          have HF3 := hide ((unhide HF2).keep hw3)
          have HX3 := hide ((unhide HX2).keep hw3)
          clear HP2 HF2 HX2 p0 p1 p2 f0 f1 f2 f3 x0 x1 x2
          obtain ⟨_, p0, p1, p2⟩ := unhide HP3
          obtain ⟨⟨f0, f1, f2, f3⟩, _⟩ := unhide HF3
          obtain ⟨_, x0, x1, x2⟩ := unhide HX3
          go_wp2_with fail
          refine (works14_any _).mono ?_
          rintro en w9 ⟨rfl, hw9⟩
          have B9 := B3.trans (hw9.mono B3.size)
          go_wp2
          go_ret
          exact ⟨rfl, B9⟩
        · have hle : fh ≤ sp := by omega
          obtain ⟨ht, hsp, hT⟩ := okPB_iff.1 e1
          have hlen1 : 0 < len := by have := hT.1; omega
          have hb0 : basE t sp s len S = 0 := by unfold basE; rw [if_pos e1, if_pos e2]
          have hn3 : (1 ≤ n ∧ n ≤ 4096) ∧ (mo = 0 ∨ n ≤ mo ∧ mo ≤ 4096) := by simpa [asN] using e3
          obtain ⟨N, hN⟩ : ∃ N : Nat, (N : Int) = 3 + 2 * t + 2 * sp := ⟨(3 + 2 * t + 2 * sp).toNat, by omega⟩
          have hNb : 69 ≤ N ∧ N ≤ 300 := by omega
          obtain ⟨b0, o0, rfl, hbb0, hc0⟩ := H (by omega)
          have CN := hide (fun W (hW : Below w.heap.size w W) => newM_ok t sp _ len cap S (by omega) hSm s n mo W (H.keep hW) hb0 e3)
          have CS := hide (fun W (hW : Below w.heap.size w W) => start_any t sp _ len cap S N ⟨ht, hsp, hT⟩ hN W (H.keep hW))
          have CB := hide (fun W => refBase_any t sp s (.slice (some ⟨b0, o0, none⟩) len cap) ht hsp e2 ⟨_, _, _, rfl⟩ W)
          have CA := hide (fun (g h m : Nat) (xs : Nat → Int) W (hW : Below w.heap.size w W) (hI : IsM W m (newMc.c ⟨t, sp, some ⟨b0, o0, none⟩, len, cap, s, n, mo⟩)) (hK : IsAr W g h N xs) (h64 : All64 N xs) (hm : w.heap.size ≤ m) (hh : w.heap.size ≤ h) (hmg : m ≠ g) (hmh : m ≠ h) => alone_any ⟨t, sp, some ⟨b0, o0, none⟩, len, cap, s, n, mo⟩ S (show len ≤ 9223372036854775807 by omega) hSm g h N m xs W ⟨H.keep hW, e1, e2, e3⟩ (far_of14 H hlen1 m hm) (far_of14 H hlen1 h hh) hI hK hmg hmh h64)
          have CFr := hide (fun W => refFront_any fs fl fh fo W)
          have CI := hide (fun W => refFits_any fs fl fh fo mo W)
          obtain ⟨T, hTK, hW0⟩ := lk_ways s n mo fs fl fh fo
          obtain ⟨K, hK⟩ : ∃ K, lkN s n mo fs fl fh fo = K := ⟨_, rfl⟩
          rw [hK] at hTK
          have h1K : 1 ≤ K := by
            rw [hTK]
            rcases hW0 with ⟨q1, q2⟩ | ⟨q1, q2, q3⟩ | ⟨q1, q2, q3⟩
            · rw [q2]; simp; omega
            · rw [q3]; simp; omega
            · split <;> omega
          obtain ⟨⟨cs, cl, ch, co, ca, ce⟩, hcl⟩ : ∃ c, claimF fs fl fh fo s K = c := ⟨_, rfl⟩
          have CC := hide (fun W => refClaim_any fs fl fh fo s K W)
          rw [hcl] at CC
          have EA := hide (fun (ys : Nat → Int) (hx : ys 1 = frontW fs fl fh fo) => alone_claim ⟨t, sp, some ⟨b0, o0, none⟩, len, cap, s, n, mo⟩ N (by omega) ys fs fl fh fo K cs cl ch co ca ce hx eg hle e2 hK h1K hcl)
          have CF2 := hide (fun W => refFront_any cs cl ch co W)
          have hV : 0 ≤ bas t sp s ∧ bas t sp s ≤ 200 := by unfold bas; rcases e2 with e | e <;> rw [e] <;> omega
          have HW0 := hide hW0
          have HTK := hide hTK
          have HFv := hide (frontW_64 fs fl fh fo)
          generalize frontW fs fl fh fo = F at CFr EA HFv
          generalize frontE fs fl fh fo = FE at CFr
          have HF2v := hide (frontW_64 cs cl ch co)
          generalize frontW cs cl ch co = F2 at CF2 EA HF2v
          generalize frontE cs cl ch co = FE2 at CF2
          change Hid (∀ (ys : Nat → Int), ys 1 = F → (ce = 0 ∧ 0 ≤ ca ∧ ca ≤ 4096 ∧ aloneF ⟨t, sp, some ⟨b0, o0, none⟩, len, cap, s, n, mo⟩ N 60 newMc ys 0 0 = ⟨0, bas t sp s + ca, K, 2, ⟨4, 0, ys 1, bas t sp s + ca, K, 0, bas t sp s + ca, K⟩, upd ys 1 F2⟩) ∨ (ce ≠ 0 ∧ aloneF ⟨t, sp, some ⟨b0, o0, none⟩, len, cap, s, n, mo⟩ N 60 newMc ys 0 0 = ⟨184, 0, 0, 1, ⟨4, 0, 0, 0, 0, 184, 0, 0⟩, ys⟩)) at EA
          generalize hVV : bas t sp s = V at CB EA hV
          obtain ⟨v1, v2⟩ := hV
          have hn1 : (1 : Int) < (N : Int) := by omega
          clear ef H hS hSm hb0 hc0 hT ht hsp hN e1 e3 eg hn3 hTK hW0 hK hcl h1K hVV hle hlen1
          go_enter Try.func8, Try.ntmps8
          go_wp2_with fail
          refine (unhide cf _ (by repeat (first | exact Below.refl _ _ | assumption | refine Below.alloc ?_ (by first | (simp; done) | (simp; omega) | omega) _ | refine Below.setCell ?_ (by first | (simp; done) | (simp; omega) | omega) _ | apply Below.drew | refine Below.trans ?_ (Below.mono (by assumption) (by first | (simp; done) | (simp; omega) | omega))))).mono ?_
          rintro e w1 ⟨rfl, hw1⟩; obtain ⟨hcw1, hfw1⟩ := bcell hw1; (try (simp only [World.size_drew, World.cell?_drew, World.frozen?_drew] at hcw1 hfw1)); have hzw1 := hw1.size; (try (simp only [World.size_alloc, World.size_setCell, World.size_drew] at hzw1)); (try (have hzw1_w_0 : w.heap.size < w1.heap.size := by omega)); (try (have hzw1_w_1 : w.heap.size + 1 < w1.heap.size := by omega)); (try (have hzw1_w_2 : w.heap.size + 1 + 1 < w1.heap.size := by omega)); (try (have hzw1_w_3 : w.heap.size + 1 + 1 + 1 < w1.heap.size := by omega)); (try (have hyw1_w : w.heap.size ≤ w1.heap.size := by omega)); (try (have hyw1_wa : w.heap.size + 1 ≤ w1.heap.size := by omega))
          have B1 : Below w.heap.size w w1 := by repeat (first | exact Below.refl _ _ | assumption | refine Below.alloc ?_ (by first | (simp; done) | (simp; omega) | omega) _ | refine Below.setCell ?_ (by first | (simp; done) | (simp; omega) | omega) _ | apply Below.drew | refine Below.trans ?_ (Below.mono (by assumption) (by first | (simp; done) | (simp; omega) | omega)))
          have HP1 : Hid (BoxP w1 w.heap.size t sp (some ⟨b0, o0, none⟩) len cap) := hide ⟨by omega, by go_simp, by go_simp, by go_simp⟩
          have HF1 : Hid (Fr w1 (w.heap.size + 1) fs fl fh fo) := hide ⟨⟨by go_simp, by go_simp, by go_simp, by go_simp⟩, by omega⟩
          have HX1 : Hid (Cl3 w1 (w.heap.size + 1 + 1) s n mo) := hide ⟨by omega, by go_simp, by go_simp, by go_simp⟩
          clear hcw1 hfw1 hw1
          obtain ⟨_, p0, p1, p2⟩ := unhide HP1
          obtain ⟨⟨f0, f1, f2, f3⟩, _⟩ := unhide HF1
          obtain ⟨_, x0, x1, x2⟩ := unhide HX1
          go_wp2_with fail
          refine (unhide CR _ B1).mono ?_
          rintro en w2 ⟨rfl, hw2⟩
          have B2 := B1.trans (hw2.mono B1.size)
          have HP2 := hide ((unhide HP1).keep hw2)
          have HF2 := hide ((unhide HF1).keep hw2)
          have HX2 := hide ((unhide HX1).keep hw2)
          clear hw2 HP1 HF1 HX1 p0 p1 p2 f0 f1 f2 f3 x0 x1 x2
          obtain ⟨_, p0, p1, p2⟩ := unhide HP2
          obtain ⟨⟨f0, f1, f2, f3⟩, _⟩ := unhide HF2
          obtain ⟨_, x0, x1, x2⟩ := unhide HX2
          go_wp2_with fail
          refine (unhide CG _).mono ?_
          rintro en w3 ⟨rfl, hw3⟩
          have B3 := B2.trans (hw3.mono B2.size)
          have HP3 := hide ((unhide HP2).keep hw3)
          have HF3 := hide ((unhide HF2).keep hw3)
          have HX3 := hide ((unhide HX2).keep hw3)
          clear hw3 HP2 HF2 HX2 p0 p1 p2 f0 f1 f2 f3 x0 x1 x2
          obtain ⟨_, p0, p1, p2⟩ := unhide HP3
          obtain ⟨⟨f0, f1, f2, f3⟩, _⟩ := unhide HF3
          obtain ⟨_, x0, x1, x2⟩ := unhide HX3
          go_wp2_with fail
          refine (unhide CS _ B3).mono ?_
          rintro en w4 ⟨bb, xs, hbb, rfl, hW4, h64, _, hw4⟩
          have B4 := B3.trans (hw4.mono B3.size)
          have HW4 := hide hW4
          have H64 := hide h64
          have HP4 := hide ((unhide HP3).keep hw4)
          have HF4 := hide ((unhide HF3).keep hw4)
          have HX4 := hide ((unhide HX3).keep hw4)
          have hbx : w.heap.size + 1 + 1 < w3.heap.size := (unhide HX3).1
          clear hw4 hW4 h64 HP3 HF3 HX3 p0 p1 p2 f0 f1 f2 f3 x0 x1 x2
          obtain ⟨_, p0, p1, p2⟩ := unhide HP4
          obtain ⟨⟨f0, f1, f2, f3⟩, _⟩ := unhide HF4
          obtain ⟨_, x0, x1, x2⟩ := unhide HX4
          go_wp2_with fail
          refine (unhide CFr _).mono ?_
          rintro en w5 ⟨rfl, hw5⟩
          have B5 := B4.trans (hw5.mono B4.size)
          have HW5 := hide ((unhide HW4).keep hw5)
          have HP5 := hide ((unhide HP4).keep hw5)
          have HF5 := hide ((unhide HF4).keep hw5)
          have HX5 := hide ((unhide HX4).keep hw5)
          clear hw5 HW4 HP4 HF4 HX4 p0 p1 p2 f0 f1 f2 f3 x0 x1 x2
          have cc1 := ((unhide HW5).2 1 (by omega)).1
          have cf1 := ((unhide HW5).2 1 (by omega)).2
          go_upto_region 5 with fail
          have HC6 : Hid (Chg (fun j => j = bb) w5 (w5.setCell ⟨bb, 1, none⟩ (.int .u64 F))) := hide (Chg.set1 (Chg.refl _ w5) _)
          have HW6 := hide ((unhide HW5).set (i := 1) (by omega) F)
          have B6 := B5.trans ((unhide HC6).below (n := w.heap.size) (fun i e => by subst e; omega) B5.size)
          generalize w5.setCell ⟨bb, 1, none⟩ (.int .u64 F) = w6 at *
          have HP6 := hide ((unhide HP5).chg (unhide HC6) (by omega))
          have HF6 : Hid (Fr w6 (w.heap.size + 1) fs fl fh fo) := hide (Fr.chg (unhide HF5) (unhide HC6) (by omega))
          have HX6 := hide ((unhide HX5).chg (unhide HC6) (by omega))
          have H64y := hide (all64_upd (unhide H64) 1 (unhide HFv))
          have HY1 : Hid (upd xs 1 F 1 = F) := hide (by unfold upd; rw [if_pos rfl])
          generalize upd xs 1 F = ys at HW6 H64y HY1
          clear cc1 cf1 HC6 HW5 HP5 HF5 HX5 H64 HFv
          go_wp2_with fail
          refine (of_yes bb 0 N N ys (by omega) (by omega) _ (unhide HW6).1 (fun i hi => by rw [Nat.zero_add]; exact ((unhide HW6).2 i hi).1)).mono ?_
          rintro en w7 ⟨g, h, rfl, hw7, hg7, hh7, hA7⟩
          have B7 := B6.trans (hw7.mono B6.size)
          have HA7 := hide hA7
          have HW7 := hide ((unhide HW6).keep hw7)
          have HP7 := hide ((unhide HP6).keep hw7)
          have HF7 := hide ((unhide HF6).keep hw7)
          have HX7 := hide ((unhide HX6).keep hw7)
          have hlw6 := (unhide HW6).1
          have hlx6 := (unhide HX6).1
          have hlg := hA7.2.1
          have hlh := hA7.2.2.1
          clear hw7 hA7 HW6 HP6 HF6 HX6
          obtain ⟨_, p0, p1, p2⟩ := unhide HP7
          obtain ⟨⟨f0, f1, f2, f3⟩, _⟩ := unhide HF7
          obtain ⟨_, x0, x1, x2⟩ := unhide HX7
          go_wp2_with fail
          refine (unhide CN _ B7).mono ?_
          rintro en w8 ⟨m, hwm, rfl, hI, hw8⟩
          have B8 := B7.trans (hw8.mono B7.size)
          have HI8 := hide hI
          have HA8 := hide ((unhide HA7).keep hw8)
          have HW8 := hide ((unhide HW7).keep hw8)
          have HP8 := hide ((unhide HP7).keep hw8)
          have HF8 := hide ((unhide HF7).keep hw8)
          have HX8 := hide ((unhide HX7).keep hw8)
          have hlw7 := (unhide HW7).1
          have hlx7 := (unhide HX7).1
          have hz6 := B6.size
          have hz7 := B7.size
          clear hw8 hI HA7 HW7 HP7 HF7 HX7 p0 p1 p2 f0 f1 f2 f3 x0 x1 x2
          go_wp2_with (go_at_call 13; refine (num14_any _ _).mono ?_; rintro e w' ⟨rfl, rfl⟩)
          refine (unhide CA g h m ys _ B8 (unhide HI8) (unhide HA8) (unhide H64y) (by omega) (by omega) (by omega) (by omega)).mono ?_
          rintro en w9 hal
          unfold AlEnd at hal
          rcases unhide EA ys (unhide HY1) with ⟨rfl, ca1, ca2, hE⟩ | ⟨hce, hE⟩
          · rw [hE] at hal
            obtain ⟨rfl, hc, hi, ha⟩ := hal
            have hn9 : ∀ i, ¬ i = m → ¬ i = h → ¬ Both m h i := fun i a b e => e.elim a b
            have HW9 := hide ((unhide HW8).chg hc (hn9 _ (by omega) (by omega)))
            have HP9 := hide ((unhide HP8).chg hc (hn9 _ (by omega) (by omega)))
            have HF9 : Hid (Fr w9 (w.heap.size + 1) fs fl fh fo) := hide (Fr.chg (unhide HF8) hc (hn9 _ (by omega) (by omega)))
            have HX9 := hide ((unhide HX8).chg hc (hn9 _ (by omega) (by omega)))
            have HA9 := hide ha
            have B9 := B8.trans (hc.below (n := w.heap.size) (fun i e => e.elim (by omega) (by omega)) B8.size)
            clear hc hi ha hn9 hE HW8 HP8 HF8 HX8 HA8 HI8 B8
            have hBa : Below w9.heap.size w9 (w9.alloc (.cells #[.int .i64 0, .int .i64 (V + ca), .int .i64 K] 38)) := (Below.refl _ _).alloc (Nat.le_refl _) _
            have HO10 := hide (Cl3.new w9 38 (0) ((V + ca)) (K))
            have HW10 := hide ((unhide HW9).keep hBa)
            have HP10 := hide ((unhide HP9).keep hBa)
            have HF10 := hide ((unhide HF9).keep hBa)
            have HX10 := hide ((unhide HX9).keep hBa)
            have HA10 := hide ((unhide HA9).keep hBa)
            have B10 := B9.trans (hBa.mono B9.size)
            go_upto_region 10 with fail
            generalize w9.heap.size = O at *
            generalize w9.alloc (.cells #[.int .i64 0, .int .i64 (V + ca), .int .i64 K] 38) = w10 at *
            clear hBa HW9 HP9 HF9 HX9 HA9 B9
            obtain ⟨_, p0, p1, p2⟩ := unhide HP10
            obtain ⟨⟨f0, f1, f2, f3⟩, _⟩ := unhide HF10
            obtain ⟨_, x0, x1, x2⟩ := unhide HX10
            go_upto_region 11 with fail
            go_cut [108] (fun s108 wx => s108 = .bool T ∧ Below w10.heap.size w10 wx)
            case first =>
              rcases unhide HW0 with ⟨k1, k2⟩ | ⟨k1, k2, k3⟩ | ⟨k1, k2, k3⟩
              · have k1' : (mo != 0) = false := by simpa using k1
                subst k2
                clear k1
                go_wp2
                go_meet
                exact ⟨rfl, Below.refl _ _⟩
              · have k1' : (mo != 0) = true := by simpa using k1
                have k2' : (s == fs) = false := by simpa using k2
                subst k3
                clear k1 k2
                go_wp2
                go_meet
                exact ⟨rfl, Below.refl _ _⟩
              · have k1' : (mo != 0) = true := by simpa using k1
                have k2' : (s == fs) = true := by simpa using k2
                rw [k3] at CI
                clear k1 k2 k3
                go_wp2_with fail
                refine (unhide CI _).mono ?_
                rintro en w11 ⟨rfl, hw11⟩
                go_wp2
                go_meet
                exact ⟨rfl, hw11⟩
            case rest =>
              obtain ⟨rfl, hB11⟩ := hcut
              obtain ⟨w11, hw11⟩ : ∃ w11, w11 = wc := ⟨_, rfl⟩
              subst hw11
              have HO11 := hide ((unhide HO10).keep hB11)
              have HW11 := hide ((unhide HW10).keep hB11)
              have HP11 := hide ((unhide HP10).keep hB11)
              have HF11 := hide ((unhide HF10).keep hB11)
              have HX11 := hide ((unhide HX10).keep hB11)
              have HA11 := hide ((unhide HA10).keep hB11)
              have B11 := B10.trans (hB11.mono B10.size)
              clear hB11 p0 p1 p2 f0 f1 f2 f3 x0 x1 x2 HO10 HW10 HP10 HF10 HX10 HA10 B10 CI HW0
              obtain ⟨_, p0, p1, p2⟩ := unhide HP11
              obtain ⟨⟨f0, f1, f2, f3⟩, _⟩ := unhide HF11
              obtain ⟨_, x0, x1, x2⟩ := unhide HX11
              go_upto_if 108 with fail
              go_cut [14] (fun s14 wx => s14 = .int .i64 K ∧ w11 = wx)
              case first =>
                cases T
                · have E1 := hide (show n = K by have := unhide HTK; simpa using this.symm)
                  go_wp2
                  go_meet
                  exact ⟨by rw [unhide E1], rfl⟩
                · have E1 := hide (show mo = K by have := unhide HTK; simpa using this.symm)
                  go_wp2
                  go_meet
                  exact ⟨by rw [unhide E1], rfl⟩
              case rest =>
                obtain ⟨rfl, rfl⟩ := hcut
                go_wp2_with fail
                refine (unhide CC _).mono ?_
                unfold ClaimRes.val
                rintro en w12 ⟨rfl, hw12⟩
                have HO12 := hide ((unhide HO11).keep hw12)
                have HW12 := hide ((unhide HW11).keep hw12)
                have HP12 := hide ((unhide HP11).keep hw12)
                have HX12 := hide ((unhide HX11).keep hw12)
                have HA12 := hide ((unhide HA11).keep hw12)
                have B12 := B11.trans (hw12.mono B11.size)
                clear hw12 p0 p1 p2 f0 f1 f2 f3 x0 x1 x2 HO11 HW11 HP11 HF11 HX11 HA11 B11 CC HTK
                have hBa : Below w12.heap.size w12 (w12.alloc (.cells #[.int .i64 cs, .int .i64 cl, .int .i64 ch, .int .i64 co] 61)) := (Below.refl _ _).alloc (Nat.le_refl _) _
                have HY13 := hide (Fr.new w12 61 cs cl ch co)
                have HO13 := hide ((unhide HO12).keep hBa)
                have HW13 := hide ((unhide HW12).keep hBa)
                have HP13 := hide ((unhide HP12).keep hBa)
                have HX13 := hide ((unhide HX12).keep hBa)
                have HA13 := hide ((unhide HA12).keep hBa)
                have B13 := B12.trans (hBa.mono B12.size)
                go_upto_region 14 with fail
                generalize w12.heap.size = Y at *
                generalize w12.alloc (.cells #[.int .i64 cs, .int .i64 cl, .int .i64 ch, .int .i64 co] 61) = w13 at *
                clear hBa HO12 HW12 HP12 HX12 HA12 B12
                go_wp2_with fail
                refine (of_yes bb 0 N N ys (by omega) (by omega) _ (unhide HW13).1 (fun i hi => by rw [Nat.zero_add]; exact ((unhide HW13).2 i hi).1)).mono ?_
                rintro en w14 ⟨g2, h2, rfl, hw14, hg14, hh14, hA14⟩
                have B14 := B13.trans (hw14.mono B13.size)
                have HB14 := hide hA14
                have HA14 := hide ((unhide HA13).keep hw14)
                have HO14 := hide ((unhide HO13).keep hw14)
                have HY14 := hide ((unhide HY13).keep hw14)
                have HP14 := hide ((unhide HP13).keep hw14)
                have HX14 := hide ((unhide HX13).keep hw14)
                have hz13 := B13.size
                have hlo := (unhide HO13).1
                have hlp := (unhide HP13).1
                have hlx := (unhide HX13).1
                have hly := (unhide HY13).2
                have hlg3 := (unhide HA13).2.1
                have hlh3 := (unhide HA13).2.2.1
                clear hw14 hA14 HW13 HA13 HO13 HY13 HP13 HX13 B13
                obtain ⟨⟨r0, r1, r2, r3⟩, _⟩ := unhide HY14
                go_wp2_with fail
                refine (unhide CF2 _).mono ?_
                rintro en w15 ⟨rfl, hw15⟩
                have B15 := B14.trans (hw15.mono B14.size)
                have HA15 := hide ((unhide HA14).keep hw15)
                have HB15 := hide ((unhide HB14).keep hw15)
                have HO15 := hide ((unhide HO14).keep hw15)
                have HP15 := hide ((unhide HP14).keep hw15)
                have HX15 := hide ((unhide HX14).keep hw15)
                clear hw15 B14 HA14 HB14 HO14 HY14 HP14 HX14 r0 r1 r2 r3 CF2
                go_wp2_with fail
                refine (st_any g2 h2 N ys 1 F2 _ (unhide HB15)).mono ?_
                rw [do_two N (by omega) ys F2]
                rintro en w16 ⟨rfl, hg16, hK16⟩
                have hc16 : Chg (fun i => i = h2) w15 w16 := Chg.gr hg16 rfl
                have B16 := B15.trans (hc16.below (n := w.heap.size) (fun i e => by subst e; omega) B15.size)
                have HA16 := hide ((unhide HA15).chg hc16 (by omega) (by omega))
                have HB16 := hide hK16
                have HO16 := hide ((unhide HO15).chg hc16 (by omega))
                have HP16 := hide ((unhide HP15).chg hc16 (by omega))
                have HX16 := hide ((unhide HX15).chg hc16 (by omega))
                clear hg16 hK16 hc16 B15 HA15 HB15 HO15 HP15 HX15
                have CSm := hide (fun (v : Later w16) => later_call (show Calls Try.prog 32 #[.pointer (some ⟨g, 0, none⟩), .pointer (some ⟨g2, 0, none⟩)] v.val fun e w' => e = .returned (.bool true) ∧ Below v.val.heap.size v.val w' by
                  have q := same_arena g h N g2 h2 N (upd ys 1 F2) (upd ys 1 F2) v.val ((unhide HA16).keep v.ok) ((unhide HB16).keep v.ok)
                  rw [show (decide (N = N) && eqTo (upd ys 1 F2) (upd ys 1 F2) N) = true by rw [eqTo_iff.2 (fun _ _ => rfl)]; simp] at q
                  exact q))
                have u0 : ∀ v : Later w16, v.val.cell? ⟨O, 0, none⟩ = some (.int .i64 0) := Later.cell (unhide HO16).1 (unhide HO16).2.1
                have u1 : ∀ v : Later w16, v.val.cell? ⟨O, 1, none⟩ = some (.int .i64 (V + ca)) := Later.cell (unhide HO16).1 (unhide HO16).2.2.1
                have u2 : ∀ v : Later w16, v.val.cell? ⟨O, 2, none⟩ = some (.int .i64 K) := Later.cell (unhide HO16).1 (unhide HO16).2.2.2
                have p0 : ∀ v : Later w16, v.val.cell? ⟨w.heap.size, 0, none⟩ = some (.int .i64 t) := Later.cell (unhide HP16).1 (unhide HP16).2.1
                have p1 : ∀ v : Later w16, v.val.cell? ⟨w.heap.size, 1, none⟩ = some (.int .i64 sp) := Later.cell (unhide HP16).1 (unhide HP16).2.2.1
                have p2 : ∀ v : Later w16, v.val.cell? ⟨w.heap.size, 2, none⟩ = some (.slice (some ⟨b0, o0, none⟩) len cap) := Later.cell (unhide HP16).1 (unhide HP16).2.2.2
                have x0 : ∀ v : Later w16, v.val.cell? ⟨w.heap.size + 1 + 1, 0, none⟩ = some (.int .i64 s) := Later.cell (unhide HX16).1 (unhide HX16).2.1
                have j1 : IntKind.i64.wrap (V + ca) = V + ca := IntWalk.i64_in _ (by omega)
                go_upto_region 19 with fail
                refine wp_region_later w16 (by kernel_rfl) (by kernel_rfl) (by repeat (first | exact Below.refl _ _ | assumption | refine Below.alloc ?_ (by first | (simp; done) | (simp; omega) | omega) _ | refine Below.setCell ?_ (by first | (simp; done) | (simp; omega) | omega) _ | apply Below.drew | refine Below.trans ?_ (Below.mono (by assumption) (by first | (simp; done) | (simp; omega) | omega)))) ?_; (repeat (first | go_big_quiet_skip | (go_big_quiet_want; (first | ((fail); go_big_quiet_on; simp only [Act.put, List.setIfInBounds_toArray, List.set_cons_zero, List.set_cons_succ]) | (go_big_quiet_op; (first | go_big_quiet_on | go_big_quiet_call ((first | (go_at_call 26; exact later_call (unhide CB _)) | (go_at_call 32; exact unhide CSm _) | (go_at_call 10; exact later_call (works14_any _)))))))))); refine wpQuiet_nil ?_
                intro w17 hw17
                have B17 := B16.trans (hw17.mono B16.size)
                go_wp2
                go_ret
                exact ⟨rfl, B17⟩
          · rw [hE] at hal
            obtain ⟨rfl, hc, hi, ha⟩ := hal
            have hn9 : ∀ i, ¬ i = m → ¬ i = h → ¬ Both m h i := fun i a b e => e.elim a b
            have HW9 := hide ((unhide HW8).chg hc (hn9 _ (by omega) (by omega)))
            have HP9 := hide ((unhide HP8).chg hc (hn9 _ (by omega) (by omega)))
            have HF9 : Hid (Fr w9 (w.heap.size + 1) fs fl fh fo) := hide (Fr.chg (unhide HF8) hc (hn9 _ (by omega) (by omega)))
            have HX9 := hide ((unhide HX8).chg hc (hn9 _ (by omega) (by omega)))
            have HA9 := hide ha
            have B9 := B8.trans (hc.below (n := w.heap.size) (fun i e => e.elim (by omega) (by omega)) B8.size)
            clear hc hi ha hn9 hE HW8 HP8 HF8 HX8 HA8 HI8 B8
            have hBa : Below w9.heap.size w9 (w9.alloc (.cells #[.int .i64 184, .int .i64 0, .int .i64 0] 38)) := (Below.refl _ _).alloc (Nat.le_refl _) _
            have HO10 := hide (Cl3.new w9 38 (184) (0) (0))
            have HW10 := hide ((unhide HW9).keep hBa)
            have HP10 := hide ((unhide HP9).keep hBa)
            have HF10 := hide ((unhide HF9).keep hBa)
            have HX10 := hide ((unhide HX9).keep hBa)
            have HA10 := hide ((unhide HA9).keep hBa)
            have B10 := B9.trans (hBa.mono B9.size)
            go_upto_region 10 with fail
            generalize w9.heap.size = O at *
            generalize w9.alloc (.cells #[.int .i64 184, .int .i64 0, .int .i64 0] 38) = w10 at *
            clear hBa HW9 HP9 HF9 HX9 HA9 B9
            obtain ⟨_, p0, p1, p2⟩ := unhide HP10
            obtain ⟨⟨f0, f1, f2, f3⟩, _⟩ := unhide HF10
            obtain ⟨_, x0, x1, x2⟩ := unhide HX10
            go_upto_region 11 with fail
            go_cut [108] (fun s108 wx => s108 = .bool T ∧ Below w10.heap.size w10 wx)
            case first =>
              rcases unhide HW0 with ⟨k1, k2⟩ | ⟨k1, k2, k3⟩ | ⟨k1, k2, k3⟩
              · have k1' : (mo != 0) = false := by simpa using k1
                subst k2
                clear k1
                go_wp2
                go_meet
                exact ⟨rfl, Below.refl _ _⟩
              · have k1' : (mo != 0) = true := by simpa using k1
                have k2' : (s == fs) = false := by simpa using k2
                subst k3
                clear k1 k2
                go_wp2
                go_meet
                exact ⟨rfl, Below.refl _ _⟩
              · have k1' : (mo != 0) = true := by simpa using k1
                have k2' : (s == fs) = true := by simpa using k2
                rw [k3] at CI
                clear k1 k2 k3
                go_wp2_with fail
                refine (unhide CI _).mono ?_
                rintro en w11 ⟨rfl, hw11⟩
                go_wp2
                go_meet
                exact ⟨rfl, hw11⟩
            case rest =>
              obtain ⟨rfl, hB11⟩ := hcut
              obtain ⟨w11, hw11⟩ : ∃ w11, w11 = wc := ⟨_, rfl⟩
              subst hw11
              have HO11 := hide ((unhide HO10).keep hB11)
              have HW11 := hide ((unhide HW10).keep hB11)
              have HP11 := hide ((unhide HP10).keep hB11)
              have HF11 := hide ((unhide HF10).keep hB11)
              have HX11 := hide ((unhide HX10).keep hB11)
              have HA11 := hide ((unhide HA10).keep hB11)
              have B11 := B10.trans (hB11.mono B10.size)
              clear hB11 p0 p1 p2 f0 f1 f2 f3 x0 x1 x2 HO10 HW10 HP10 HF10 HX10 HA10 B10 CI HW0
              obtain ⟨_, p0, p1, p2⟩ := unhide HP11
              obtain ⟨⟨f0, f1, f2, f3⟩, _⟩ := unhide HF11
              obtain ⟨_, x0, x1, x2⟩ := unhide HX11
              go_upto_if 108 with fail
              go_cut [14] (fun s14 wx => s14 = .int .i64 K ∧ w11 = wx)
              case first =>
                cases T
                · have E1 := hide (show n = K by have := unhide HTK; simpa using this.symm)
                  go_wp2
                  go_meet
                  exact ⟨by rw [unhide E1], rfl⟩
                · have E1 := hide (show mo = K by have := unhide HTK; simpa using this.symm)
                  go_wp2
                  go_meet
                  exact ⟨by rw [unhide E1], rfl⟩
              case rest =>
                obtain ⟨rfl, rfl⟩ := hcut
                go_wp2_with fail
                refine (unhide CC _).mono ?_
                unfold ClaimRes.val
                rintro en w12 ⟨rfl, hw12⟩
                have HO12 := hide ((unhide HO11).keep hw12)
                have HW12 := hide ((unhide HW11).keep hw12)
                have HP12 := hide ((unhide HP11).keep hw12)
                have HX12 := hide ((unhide HX11).keep hw12)
                have HA12 := hide ((unhide HA11).keep hw12)
                have B12 := B11.trans (hw12.mono B11.size)
                clear hw12 p0 p1 p2 f0 f1 f2 f3 x0 x1 x2 HO11 HW11 HP11 HF11 HX11 HA11 B11 CC HTK
                have hBa : Below w12.heap.size w12 (w12.alloc (.cells #[.int .i64 cs, .int .i64 cl, .int .i64 ch, .int .i64 co] 61)) := (Below.refl _ _).alloc (Nat.le_refl _) _
                have HY13 := hide (Fr.new w12 61 cs cl ch co)
                have HO13 := hide ((unhide HO12).keep hBa)
                have HW13 := hide ((unhide HW12).keep hBa)
                have HP13 := hide ((unhide HP12).keep hBa)
                have HX13 := hide ((unhide HX12).keep hBa)
                have HA13 := hide ((unhide HA12).keep hBa)
                have B13 := B12.trans (hBa.mono B12.size)
                go_upto_region 14 with fail
                generalize w12.heap.size = Y at *
                generalize w12.alloc (.cells #[.int .i64 cs, .int .i64 cl, .int .i64 ch, .int .i64 co] 61) = w13 at *
                clear hBa HO12 HW12 HP12 HX12 HA12 B12
                go_wp2_with fail
                refine (of_yes bb 0 N N ys (by omega) (by omega) _ (unhide HW13).1 (fun i hi => by rw [Nat.zero_add]; exact ((unhide HW13).2 i hi).1)).mono ?_
                rintro en w14 ⟨g2, h2, rfl, hw14, hg14, hh14, hA14⟩
                have B14 := B13.trans (hw14.mono B13.size)
                have HB14 := hide hA14
                have HA14 := hide ((unhide HA13).keep hw14)
                have HO14 := hide ((unhide HO13).keep hw14)
                have HY14 := hide ((unhide HY13).keep hw14)
                have HP14 := hide ((unhide HP13).keep hw14)
                have HX14 := hide ((unhide HX13).keep hw14)
                have hz13 := B13.size
                have hlo := (unhide HO13).1
                have hlp := (unhide HP13).1
                have hlx := (unhide HX13).1
                have hly := (unhide HY13).2
                have hlg3 := (unhide HA13).2.1
                have hlh3 := (unhide HA13).2.2.1
                clear hw14 hA14 HW13 HA13 HO13 HY13 HP13 HX13 B13
                have hce' : (ce != 0) = true := by simpa using hce
                obtain ⟨_, r0, r1, r2⟩ := unhide HO14
                go_wp2_with fail
                refine (same_arena g h N g2 h2 N ys ys _ (unhide HA14) (unhide HB14)).mono ?_
                rw [show (decide (N = N) && eqTo ys ys N) = true by rw [eqTo_iff.2 (fun _ _ => rfl)]; simp]
                rintro en w15 ⟨rfl, hw15⟩
                have B15 := B14.trans (hw15.mono B14.size)
                clear hw15 B14
                go_wp2_with fail
                refine (works14_any _).mono ?_
                rintro en w16 ⟨rfl, hw16⟩
                have B16 := B15.trans (hw16.mono B15.size)
                go_wp2
                go_ret
                exact ⟨rfl, B16⟩

end Go.Proofs.Ytnnllhlcpmmcaaa
