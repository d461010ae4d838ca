/- The walk of BufferWhole: it returns true. -/
import Derived.Test.YtkmoefijncjlhaaByJ
import Derived.Deep.DeepCutAuto
import Derived.Deep.WholeRow
namespace Go.Proofs.Ytkmoefijncjlhaa
set_option linter.unusedVariables false
set_option linter.unusedSimpArgs false
open Go.RowKit

theorem info_bool15 : (Try.prog.info? 4).map (fun i => (i.zero, i.size, i.bytes)) = some (some (.bool false), 1, 1) := by kernel_rfl

theorem e1000 (A : Option Addr) (W : World) (H : ShOk W A 1 S1) : Calls Try.prog 10 #[.agg #[.int .i64 1, .int .i64 1000, .slice A 1 1], .int .i64 0] W
    fun e w' => e = .returned (.tuple #[.agg #[.int .i64 0, .int .i64 0, .int .i64 0], .int .i64 0]) ∧ Below W.heap.size W w' := emptyT (by omega) A W H

theorem b1000 (A : Option Addr) (W : World) : Calls Try.prog 21 #[.agg #[.int .i64 1, .int .i64 1000, .slice A 1 1], .int .i64 0] W fun e w' => e = .returned (.int .i64 5) ∧ Below W.heap.size W w' := by
  have h := refBase_any 1 1000 0 (.slice A 1 1) (by omega) (by omega) (.inl rfl) ⟨_, _, _, rfl⟩ W
  rw [show bas 1 1000 0 = 5 by decide] at h
  exact h

/-- The world behind the plan, the plan's cells, its shapes. -/
def PlanW (W : World) (v : Value) (q : Nat) : Prop := (W.cell? ⟨q, 0, none⟩ = some (.int .i64 1) ∧ W.cell? ⟨q, 1, none⟩ = some (.int .i64 1000) ∧ W.cell? ⟨q, 2, none⟩ = some v)

theorem PlanW.keep {W U : World} {v : Value} {q : Nat} (H : PlanW W v q) (h : q < W.heap.size) (hb : Below W.heap.size W U) : PlanW U v q := by
  have e : ∀ j, U.cell? ⟨q, j, none⟩ = W.cell? ⟨q, j, none⟩ := fun j => hb.cell (p := ⟨q, j, none⟩) h
  unfold PlanW at H ⊢
  simp only [e]
  exact H

/-- A buffer's cells are set, an object is laid behind them. -/
theorem put3 (w1 W : World) (h : Nat → Bool) (a l a2 l2 : Int) (o : Obj) (HB : Bf W w1.heap.size a l) (HA : ArB W (w1.heap.size + 1) 2100 h) (hB : Below w1.heap.size w1 W) (hs : w1.heap.size + 1 < W.heap.size) :
    Hid (Bf ((((W.setCell ⟨w1.heap.size, 0, none⟩ (.int .i64 0)).setCell ⟨w1.heap.size, 1, none⟩ (.int .i64 a2)).setCell ⟨w1.heap.size, 2, none⟩ (.int .i64 l2)).alloc o) w1.heap.size a2 l2) ∧
    Hid (ArB ((((W.setCell ⟨w1.heap.size, 0, none⟩ (.int .i64 0)).setCell ⟨w1.heap.size, 1, none⟩ (.int .i64 a2)).setCell ⟨w1.heap.size, 2, none⟩ (.int .i64 l2)).alloc o) (w1.heap.size + 1) 2100 h) ∧
    Below w1.heap.size w1 ((((W.setCell ⟨w1.heap.size, 0, none⟩ (.int .i64 0)).setCell ⟨w1.heap.size, 1, none⟩ (.int .i64 a2)).setCell ⟨w1.heap.size, 2, none⟩ (.int .i64 l2)).alloc o) ∧
    w1.heap.size + 1 < ((((W.setCell ⟨w1.heap.size, 0, none⟩ (.int .i64 0)).setCell ⟨w1.heap.size, 1, none⟩ (.int .i64 a2)).setCell ⟨w1.heap.size, 2, none⟩ (.int .i64 l2)).alloc o).heap.size := by
  have hz4 : w1.heap.size ≠ w1.heap.size + 1 := by omega
  have B1 := ((hB.setCell (p := ⟨w1.heap.size, 0, none⟩) (Nat.le_refl _) (.int .i64 0)).setCell (p := ⟨w1.heap.size, 1, none⟩) (Nat.le_refl _) (.int .i64 a2)).setCell (p := ⟨w1.heap.size, 2, none⟩) (Nat.le_refl _) (.int .i64 l2)
  have A1 := ((HA.far (q := 0) hz4 (.int .i64 0)).far (q := 1) hz4 (.int .i64 a2)).far (q := 2) hz4 (.int .i64 l2)
  have F1 := HB.set a2 l2
  refine ⟨hide (F1.keep (by simp only [World.size_setCell]; omega) ((Below.refl _ _).alloc (Nat.le_refl _) o)), hide (A1.keep ((Below.refl _ _).alloc (Nat.le_refl _) o)), B1.alloc (by simp only [World.size_setCell]; omega) o, ?_⟩
  rw [World.size_alloc]
  simp only [World.size_setCell]
  omega

set_option maxRecDepth 100000 in
set_option maxHeartbeats 8000000 in
theorem bufferWhole_walk (Al : Option Addr) (len cap : Nat) (w : World) (hr : RowOk w 5 [.int .i64] Al len cap) :
    Calls Try.prog 7 #[.slice Al len cap] w fun e w' => e = .returned (.bool true) ∧ Below w.heap.size w w' := by
  have hm := hr.1
  have hm2 := hr.2.1
  unfold maxLen at hm2
  obtain ⟨gl, ol, z, hA, hc⟩ := hr.ints
  have HA := hide hA
  have HC := hide hc
  clear hr hA hc
  have HS := hide (fun U (hU : Below (w.heap.size + 1) (w.alloc (.cells #[.string ⟨#[112]⟩] 50)) U) => (s1_new w _ rfl 50).keep (by rw [World.size_alloc]; exact hU))
  obtain ⟨i0, hi, hz0, hz1, hz2⟩ := info_parts info_bool15
  have hmk : ∀ W, (Instr.makeSlice 51 (.int .i64 2100) (.int .i64 2100)).run Try.prog W = _ := fun W => run_make_rowN (P := Try.prog) 51 4 i0 _ Try.underlying51 hi hz0 .i64 .i64 2100 2100 (Nat.le_refl _) (by rw [hz2]; omega) (by omega) W
  rw [hz1] at hmk
  clear hi hz0 hz1 hz2
  by_cases hl : 60 < len
  · go_enter Try.func7, Try.ntmps7
    go_wp2_with fail
    refine (e1000 (some ⟨w.heap.size, 0, none⟩) _ (unhide HS _ (by repeat (first | exact Below.refl _ _ | assumption | refine Below.alloc ?_ (by first | (simp; done) | (simp; omega) | omega) _ | refine Below.setCell ?_ (by first | (simp; done) | (simp; omega) | omega) _ | apply Below.drew | refine Below.trans ?_ (Below.mono (by assumption) (by first | (simp; done) | (simp; omega) | omega)))))).mono ?_
    rintro e w1 ⟨rfl, hw1⟩; obtain ⟨hcw1, hfw1⟩ := bcell hw1; (try (simp only [World.size_drew, World.cell?_drew, World.frozen?_drew] at hcw1 hfw1)); have hzw1 := hw1.size; (try (simp only [World.size_alloc, World.size_setCell, World.size_drew] at hzw1)); (try (have hzw1_w_0 : w.heap.size < w1.heap.size := by omega)); (try (have hzw1_w_1 : w.heap.size + 1 < w1.heap.size := by omega)); (try (have hzw1_w_2 : w.heap.size + 1 + 1 < w1.heap.size := by omega)); (try (have hzw1_w_3 : w.heap.size + 1 + 1 + 1 < w1.heap.size := by omega)); (try (have hyw1_w : w.heap.size ≤ w1.heap.size := by omega)); (try (have hyw1_wa : w.heap.size + 1 ≤ w1.heap.size := by omega))
    have B1 : Below w.heap.size w w1 := by repeat (first | exact Below.refl _ _ | assumption | refine Below.alloc ?_ (by first | (simp; done) | (simp; omega) | omega) _ | refine Below.setCell ?_ (by first | (simp; done) | (simp; omega) | omega) _ | apply Below.drew | refine Below.trans ?_ (Below.mono (by assumption) (by first | (simp; done) | (simp; omega) | omega)))
    go_wp2_with fail
    refine (works15_any _).mono ?_
    rintro e w2 ⟨rfl, hw2⟩
    have B2 : Below w.heap.size w w2 := by repeat (first | exact Below.refl _ _ | assumption | refine Below.alloc ?_ (by first | (simp; done) | (simp; omega) | omega) _ | refine Below.setCell ?_ (by first | (simp; done) | (simp; omega) | omega) _ | apply Below.drew | refine Below.trans ?_ (Below.mono (by assumption) (by first | (simp; done) | (simp; omega) | omega)))
    go_wp2
    go_ret
    exact ⟨rfl, B2⟩
  have hl2 : len ≤ 60 := by omega
  go_enter Try.func7, Try.ntmps7
  go_wp2_with fail
  refine (e1000 (some ⟨w.heap.size, 0, none⟩) _ (unhide HS _ (by repeat (first | exact Below.refl _ _ | assumption | refine Below.alloc ?_ (by first | (simp; done) | (simp; omega) | omega) _ | refine Below.setCell ?_ (by first | (simp; done) | (simp; omega) | omega) _ | apply Below.drew | refine Below.trans ?_ (Below.mono (by assumption) (by first | (simp; done) | (simp; omega) | omega)))))).mono ?_
  rintro e w1 ⟨rfl, hw1⟩; obtain ⟨hcw1, hfw1⟩ := bcell hw1; (try (simp only [World.size_drew, World.cell?_drew, World.frozen?_drew] at hcw1 hfw1)); have hzw1 := hw1.size; (try (simp only [World.size_alloc, World.size_setCell, World.size_drew] at hzw1)); (try (have hzw1_w_0 : w.heap.size < w1.heap.size := by omega)); (try (have hzw1_w_1 : w.heap.size + 1 < w1.heap.size := by omega)); (try (have hzw1_w_2 : w.heap.size + 1 + 1 < w1.heap.size := by omega)); (try (have hzw1_w_3 : w.heap.size + 1 + 1 + 1 < w1.heap.size := by omega)); (try (have hyw1_w : w.heap.size ≤ w1.heap.size := by omega)); (try (have hyw1_wa : w.heap.size + 1 ≤ w1.heap.size := by omega))
  have B1 : Below (w.heap.size + 1 + 1) ((w.alloc (.cells #[.string ⟨#[112]⟩] 50)).alloc (.cells #[.int .i64 1, .int .i64 1000, .slice (some ⟨w.heap.size, 0, none⟩) 1 1] 24)) w1 := by repeat (first | exact Below.refl _ _ | assumption | refine Below.alloc ?_ (by first | (simp; done) | (simp; omega) | omega) _ | refine Below.setCell ?_ (by first | (simp; done) | (simp; omega) | omega) _ | apply Below.drew | refine Below.trans ?_ (Below.mono (by assumption) (by first | (simp; done) | (simp; omega) | omega)))
  have B1w : Below w.heap.size w w1 := by repeat (first | exact Below.refl _ _ | assumption | refine Below.alloc ?_ (by first | (simp; done) | (simp; omega) | omega) _ | refine Below.setCell ?_ (by first | (simp; done) | (simp; omega) | omega) _ | apply Below.drew | refine Below.trans ?_ (Below.mono (by assumption) (by first | (simp; done) | (simp; omega) | omega)))
  go_wp2_with (go_at_call 12; refine (num15_any _ _).mono ?_; rintro e w' ⟨rfl, rfl⟩)
  refine (b1000 (some ⟨w.heap.size, 0, none⟩) _).mono ?_
  rintro e w2 ⟨rfl, hw2⟩; obtain ⟨hcw2, hfw2⟩ := bcell hw2; (try (simp only [World.size_drew, World.cell?_drew, World.frozen?_drew] at hcw2 hfw2)); have hzw2 := hw2.size; (try (simp only [World.size_alloc, World.size_setCell, World.size_drew] at hzw2)); (try (have hzw2_w_0 : w.heap.size < w2.heap.size := by omega)); (try (have hzw2_w_1 : w.heap.size + 1 < w2.heap.size := by omega)); (try (have hzw2_w_2 : w.heap.size + 1 + 1 < w2.heap.size := by omega)); (try (have hzw2_w_3 : w.heap.size + 1 + 1 + 1 < w2.heap.size := by omega)); (try (have hyw2_w : w.heap.size ≤ w2.heap.size := by omega)); (try (have hyw2_wa : w.heap.size + 1 ≤ w2.heap.size := by omega)); (try (have hzw2_w1_0 : w1.heap.size < w2.heap.size := by omega)); (try (have hzw2_w1_1 : w1.heap.size + 1 < w2.heap.size := by omega)); (try (have hzw2_w1_2 : w1.heap.size + 1 + 1 < w2.heap.size := by omega)); (try (have hzw2_w1_3 : w1.heap.size + 1 + 1 + 1 < w2.heap.size := by omega)); (try (have hyw2_w1 : w1.heap.size ≤ w2.heap.size := by omega)); (try (have hyw2_w1a : w1.heap.size + 1 ≤ w2.heap.size := by omega))
  have hsz1 : w.heap.size + 1 < w1.heap.size := by omega
  have HPl : Hid (PlanW w1 (.slice (some ⟨w.heap.size, 0, none⟩) 1 1) (w.heap.size + 1)) := hide ⟨by go_simp, by go_simp, by go_simp⟩
  have HSh := hide (fun W (hW : Below w1.heap.size w1 W) => (unhide HS w1 (((Below.refl (w.heap.size + 1) (w.alloc (.cells #[.string ⟨#[112]⟩] 50))).alloc (by simp) _).trans (B1.mono (by omega)))).keep hW)
  have HLi := hide (fun W (hW : Below w1.heap.size w1 W) i (hi : i < len) => show Al = some ⟨gl, ol, none⟩ ∧ W.cell? ⟨gl, ol + i, none⟩ = some (.int .i64 (z i)) from ⟨(unhide HA (by omega)).1, (hW.cell (p := ⟨gl, ol + i, none⟩) (by show gl < _; have := (unhide HA (by omega)).2; omega)).trans ((B1w.cell (p := ⟨gl, ol + i, none⟩) (unhide HA (by omega)).2).trans (unhide HC i hi).1)⟩)
  have hB2 : Below w1.heap.size w1 w2 := by repeat (first | exact Below.refl _ _ | assumption | refine Below.alloc ?_ (by first | (simp; done) | (simp; omega) | omega) _ | refine Below.setCell ?_ (by first | (simp; done) | (simp; omega) | omega) _ | apply Below.drew | refine Below.trans ?_ (Below.mono (by assumption) (by first | (simp; done) | (simp; omega) | omega)))
  have HBf0 : Hid (Bf w2 w1.heap.size 0 0) := hide ⟨⟨by go_simp, by go_simp, by go_simp⟩, by go_simp, by go_simp, by go_simp⟩
  have HAr0 : Hid (ArB w2 (w1.heap.size + 1) 2100 (fun _ => false)) := hide (ArB.keep (by
    refine ⟨by simp, fun i hi => ⟨?_, by simp⟩⟩
    have q := made_cell (w1.alloc (.cells #[.int .i64 0, .int .i64 0, .int .i64 0] 26)) (.bool false) 2100 4 i hi
    rw [World.size_alloc] at q
    exact q) hw2)
  have hi0 : Hid (Inv 5 0 0 0 (fun _ => false)) := hide ⟨s1_rgt0 (by omega), by omega, by omega, by omega, by omega, by omega, fun h => absurd rfl h, fun j hj => by cases hj⟩
  have hs20 : w1.heap.size + 1 < w2.heap.size := by omega
  clear hw1 hcw1 hfw1 hw2 hcw2 hfw2 hmk HS HA HC B1
  go_wp2_with fail
  go_loopw [7, 8, 9] (fun nx sm i wr => ∃ (k : Nat) (nx' sm' ba lf : Int) (h : Nat → Bool), k ≤ len ∧ i = .int .i64 k ∧ nx = .int .i64 nx' ∧ sm = .int .i64 sm' ∧ Hid (Inv nx' sm' ba lf h) ∧ Hid (Bf wr w1.heap.size ba lf) ∧ Hid (ArB wr (w1.heap.size + 1) 2100 h) ∧ Below w1.heap.size w1 wr ∧ w1.heap.size + 1 < wr.heap.size) (fun _ _ i _ => len - (intOf i).toNat)
  case atStart => exact ⟨0, 5, 0, 0, 0, _, by omega, rfl, rfl, rfl, hi0, HBf0, HAr0, hB2, hs20⟩
  case round =>
    clear hi0 HBf0 HAr0 hB2 hs20
    obtain ⟨k, nx, sm, ba, lf, h, hk, rfl, rfl, rfl, HI, HBf, HAr, hB, hs1⟩ := hrel
    have hq0 : w1.heap.size < wr.heap.size := by omega
    have hBt : Below w.heap.size w wr := B1w.trans (hB.mono (by omega))
    by_cases hlt : k < len
    · obtain ⟨rfl, hcell⟩ := unhide HLi wr hB k hlt
      have bk0 : (0 : Int) ≤ (k : Int) := by omega
      have bk1 : (k : Int) < (len : Int) := by omega
      by_cases hn1 : z k < 1
      · clear HBf HAr HI
        go_wp2_with fail
        refine (works15_any _).mono ?_
        rintro e w6 ⟨rfl, hw6⟩
        have hB6 := hBt.trans (hw6.mono hBt.size)
        go_wp2
        go_ret
        exact ⟨rfl, hB6⟩
      by_cases hn2 : 20 < z k
      · clear HBf HAr HI
        go_wp2_with fail
        refine (works15_any _).mono ?_
        rintro e w6 ⟨rfl, hw6⟩
        have hB6 := hBt.trans (hw6.mono hBt.size)
        go_wp2
        go_ret
        exact ⟨rfl, hB6⟩
      obtain ⟨n, hn⟩ : ∃ n, n = z k := ⟨_, rfl⟩
      rw [← hn] at hcell hn1 hn2
      clear hn
      have hn3 : 1 ≤ n := by omega
      have hn4 : n ≤ 20 := by omega
      obtain ⟨i1, i2, i3, i4, i5, i6⟩ : 0 ≤ lf ∧ lf < 16 ∧ 5 ≤ nx ∧ nx ≤ 1000 ∧ sm + lf = nx - 5 ∧ 0 ≤ sm := ⟨(unhide HI).1.2.2.1, (unhide HI).2.1, (unhide HI).2.2.1, (unhide HI).2.2.2.1, (unhide HI).2.2.2.2.1, (unhide HI).2.2.2.2.2.1⟩
      have HI5 := hide i5
      have i7 : sm ≤ 1000 := by omega
      clear i5
      obtain ⟨⟨x0, x1, x2⟩, f0, f1, f2⟩ := unhide HBf
      have CW := hide (fun W => wants_any 0 ba lf n W)
      go_wp2_with fail
      refine (unhide CW _).mono ?_
      rintro e w3 ⟨rfl, hw3⟩
      have HBf3 := hide ((unhide HBf).keep hq0 hw3)
      have HAr3 := hide ((unhide HAr).keep hw3)
      have hB3 := hB.trans (hw3.mono hB.size)
      have hs3 : w1.heap.size + 1 < w3.heap.size := Nat.lt_of_lt_of_le hs1 hw3.size
      have hPl := (unhide HPl).keep hsz1 hB3
      have HPl3 := hide hPl
      obtain ⟨p0, p1, p2⟩ := hPl
      clear x0 x1 x2 f0 f1 f2 HBf HAr hB hs1 hw3 hcell CW hq0 hBt
      obtain ⟨wr, hwr⟩ : ∃ wr, wr = w3 := ⟨_, rfl⟩
      subst hwr
      have HBf := HBf3
      have HAr := HAr3
      have hB := hB3
      have hs1 := hs3
      clear HBf3 HAr3 hB3 hs3
      have hq0 : w1.heap.size < wr.heap.size := by omega
      have hBt : Below w.heap.size w wr := B1w.trans (hB.mono (by omega))
      go_upto_if 64 with fail
      go_cut [7, 11, 12, 13, 57, 61, 62, 64] (fun s7 _ _ s13 _ _ _ _ wx => ∃ at_ nx' ba' lf' : Int, s7 = .int .i64 nx' ∧ s13 = .int .i64 at_ ∧ Hid (Step sm h n at_ nx' ba' lf') ∧ Hid (Bf wx w1.heap.size ba' lf') ∧ Hid (ArB wx (w1.heap.size + 1) 2100 h) ∧ Below w1.heap.size w1 wx ∧ w1.heap.size + 1 < wx.heap.size)
      case first =>
        obtain ⟨⟨x0, x1, x2⟩, f0, f1, f2⟩ := unhide HBf
        by_cases ht : n ≤ lf
        · rw [show wnB lf n = false by unfold wnB; simp; omega, show wnN lf n = 0 by unfold wnN; rw [if_pos (.inr (.inr ht))]]
          have ST := hide (step_take (unhide HI) hn3 ht)
          have CT := hide (fun W (hW : Below w1.heap.size w1 W) => takeS (unhide HI) hn3 ht (some ⟨w.heap.size, 0, none⟩) W (unhide HSh W hW))
          go_wp2_with fail
          refine (unhide CT _ hB).mono ?_
          rintro e w3 ⟨rfl, hw3⟩
          have HB3 := hide ((unhide HBf).keep hq0 hw3)
          have HA3 := hide ((unhide HAr).keep hw3)
          have hB3 := hB.trans (hw3.mono hB.size)
          have hs3 : w1.heap.size + 1 < w3.heap.size := Nat.lt_of_lt_of_le hs1 hw3.size
          have ha3 : w1.heap.size < w3.heap.size := by omega
          have hz3 : w1.heap.size + 1 ≠ w1.heap.size := by omega
          have hz4 : w1.heap.size ≠ w1.heap.size + 1 := by omega
          clear hw3 x0 x1 x2 f0 f1 f2
          obtain ⟨⟨x0, x1, x2⟩, f0, f1, f2⟩ := unhide HB3
          go_wp2_with (go_at_call 12; refine (num15_any _ _).mono ?_; rintro e w' ⟨rfl, rfl⟩)
          go_meet
          exact ⟨ba, nx, rsA (ba + n) (lf - n), lf - n, rfl, rfl, ST, put3 w1 w3 h _ _ _ _ _ (unhide HB3) (unhide HA3) hB3 hs3⟩
        · have htb : ¬ (n < 1 ∨ lf < 0 ∨ n ≤ lf) := by omega
          rw [show wnB lf n = true by unfold wnB; simp; omega]
          by_cases h0 : lf = 0 ∧ n ≤ 16
          · rw [show wnN lf n = 16 by unfold wnN; rw [if_neg htb, if_pos h0]]
            obtain ⟨rfl, h16⟩ := h0
            clear htb ht
            by_cases h15 : n = 16
            · subst h15
              by_cases hfit : nx + 16 ≤ 1000
              · have ST := hide (step_same (unhide HI) hn3 hfit)
                have CG := hide (fun W (hW : Below w1.heap.size w1 W) => giveS (unhide HI) hn3 hn4 hfit (some ⟨w.heap.size, 0, none⟩) W (unhide HSh W hW))
                go_wp2_with fail
                refine (unhide CG _ hB).mono ?_
                rintro e w3 ⟨rfl, hw3⟩
                have HB3 := hide ((unhide HBf).keep hq0 hw3)
                have HA3 := hide ((unhide HAr).keep hw3)
                have hB3 := hB.trans (hw3.mono hB.size)
                have hs3 : w1.heap.size + 1 < w3.heap.size := Nat.lt_of_lt_of_le hs1 hw3.size
                have ha3 : w1.heap.size < w3.heap.size := by omega
                have hz3 : w1.heap.size + 1 ≠ w1.heap.size := by omega
                have hz4 : w1.heap.size ≠ w1.heap.size + 1 := by omega
                clear hw3 x0 x1 x2 f0 f1 f2
                obtain ⟨⟨x0, x1, x2⟩, f0, f1, f2⟩ := unhide HB3
                go_wp2_with (go_at_call 12; refine (num15_any _ _).mono ?_; rintro e w' ⟨rfl, rfl⟩)
                go_meet
                exact ⟨nx, nx + 16, ba, 0, rfl, rfl, ST, put3 w1 w3 h _ _ _ _ _ (unhide HB3) (unhide HA3) hB3 hs3⟩
              · have hfit2 : 1000 < nx + 16 := by omega
                go_wp2_with fail
                refine (works15_any _).mono ?_
                rintro e w6 ⟨rfl, hw6⟩
                have hB6 := hBt.trans (hw6.mono hBt.size)
                go_wp2
                go_ret
                exact ⟨rfl, hB6⟩
            · have h17 : n < 16 := by omega
              clear h15
              by_cases hfit : nx + 16 ≤ 1000
              · have ST := hide (step_more (unhide HI) hn3 h17 hfit)
                have CG := hide (fun W (hW : Below w1.heap.size w1 W) => giveM (unhide HI) hn3 h17 hfit (some ⟨w.heap.size, 0, none⟩) W (unhide HSh W hW))
                go_wp2_with fail
                refine (unhide CG _ hB).mono ?_
                rintro e w3 ⟨rfl, hw3⟩
                have HB3 := hide ((unhide HBf).keep hq0 hw3)
                have HA3 := hide ((unhide HAr).keep hw3)
                have hB3 := hB.trans (hw3.mono hB.size)
                have hs3 : w1.heap.size + 1 < w3.heap.size := Nat.lt_of_lt_of_le hs1 hw3.size
                have ha3 : w1.heap.size < w3.heap.size := by omega
                have hz3 : w1.heap.size + 1 ≠ w1.heap.size := by omega
                have hz4 : w1.heap.size ≠ w1.heap.size + 1 := by omega
                clear hw3 x0 x1 x2 f0 f1 f2
                obtain ⟨⟨x0, x1, x2⟩, f0, f1, f2⟩ := unhide HB3
                go_wp2_with (go_at_call 12; refine (num15_any _ _).mono ?_; rintro e w' ⟨rfl, rfl⟩)
                go_meet
                exact ⟨nx, nx + 16, rsA (nx + n) (16 - n), 16 - n, rfl, rfl, ST, put3 w1 w3 h _ _ _ _ _ (unhide HB3) (unhide HA3) hB3 hs3⟩
              · have hfit2 : 1000 < nx + 16 := by omega
                go_wp2_with fail
                refine (works15_any _).mono ?_
                rintro e w6 ⟨rfl, hw6⟩
                have hB6 := hBt.trans (hw6.mono hBt.size)
                go_wp2
                go_ret
                exact ⟨rfl, hB6⟩
          · rw [show wnN lf n = 0 by unfold wnN; rw [if_neg htb, if_neg h0]]
            have hn0 : 0 < n := by omega
            clear htb h0
            by_cases hfit : nx + n ≤ 1000
            · have ST := hide (step_same (unhide HI) hn3 hfit)
              have CG := hide (fun W (hW : Below w1.heap.size w1 W) => giveS (unhide HI) hn3 hn4 hfit (some ⟨w.heap.size, 0, none⟩) W (unhide HSh W hW))
              go_wp2_with fail
              refine (unhide CG _ hB).mono ?_
              rintro e w3 ⟨rfl, hw3⟩
              have HB3 := hide ((unhide HBf).keep hq0 hw3)
              have HA3 := hide ((unhide HAr).keep hw3)
              have hB3 := hB.trans (hw3.mono hB.size)
              have hs3 : w1.heap.size + 1 < w3.heap.size := Nat.lt_of_lt_of_le hs1 hw3.size
              have ha3 : w1.heap.size < w3.heap.size := by omega
              have hz3 : w1.heap.size + 1 ≠ w1.heap.size := by omega
              have hz4 : w1.heap.size ≠ w1.heap.size + 1 := by omega
              clear hw3 x0 x1 x2 f0 f1 f2
              obtain ⟨⟨x0, x1, x2⟩, f0, f1, f2⟩ := unhide HB3
              go_wp2_with (go_at_call 12; refine (num15_any _ _).mono ?_; rintro e w' ⟨rfl, rfl⟩)
              go_meet
              exact ⟨nx, nx + n, ba, lf, rfl, rfl, ST, put3 w1 w3 h _ _ _ _ _ (unhide HB3) (unhide HA3) hB3 hs3⟩
            · have hfit2 : 1000 < nx + n := by omega
              go_wp2_with fail
              refine (works15_any _).mono ?_
              rintro e w6 ⟨rfl, hw6⟩
              have hB6 := hBt.trans (hw6.mono hBt.size)
              go_wp2
              go_ret
              exact ⟨rfl, hB6⟩
      case rest =>
        obtain ⟨at_, nx', ba', lf', rfl, rfl, HST, HBf', HAr', hB', hs'⟩ := hcut
        obtain ⟨wx, hwx⟩ : ∃ wx, wx = wc := ⟨_, rfl⟩
        subst hwx
        clear HBf HAr hB hs1 hq0 hBt p0 p1 p2 HPl3 HI HI5
        obtain ⟨t0, rfl⟩ : ∃ m : Nat, at_ = (m : Int) := ⟨at_.toNat, by have := (unhide HST).1; omega⟩
        obtain ⟨b1, b2, b3⟩ : (5 : Int) ≤ (t0 : Int) ∧ (t0 : Int) + n ≤ 1100 ∧ Hid (∀ j : Nat, (t0 : Int) ≤ (j : Int) → (j : Int) < t0 + n → h j = false) := ⟨(unhide HST).1, (unhide HST).2.1, hide (unhide HST).2.2.1⟩
        have HI2 := hide (unhide HST).2.2.2
        clear HST
        go_wp2_with fail
        go_loopw [20] (fun kk wr => ∃ q : Nat, kk = .int .i64 q ∧ t0 ≤ q ∧ (q : Int) ≤ t0 + n ∧ Hid (Bf wr w1.heap.size ba' lf') ∧ Hid (ArB wr (w1.heap.size + 1) 2100 (fun j => h j || decide (t0 ≤ j ∧ j < q))) ∧ Below w1.heap.size w1 wr ∧ w1.heap.size + 1 < wr.heap.size) (fun kk _ => ((t0 : Int) + n - intOf kk).toNat)
        case atStart => exact ⟨t0, rfl, by omega, by omega, HBf', hide ((unhide HAr').congr (fun i _ => by rw [show decide (t0 ≤ i ∧ i < t0) = false by simp, Bool.or_false])), hB', hs'⟩
        case round =>
          clear HBf' HAr' hB' hs'
          obtain ⟨q, rfl, q1, q2, HBq, HAq, hBq, hsq⟩ := hrel
          have q3 : (0 : Int) ≤ (q : Int) := by omega
          by_cases hq : (q : Int) < t0 + n
          · have q4 : (q : Int) < 2100 := by omega
            have q5 : q < 2100 := by omega
            have hc0 : wr.cell? ⟨w1.heap.size + 1, q, none⟩ = some (.bool false) := by
              have e : wr.cell? ⟨w1.heap.size + 1, q, none⟩ = some (.bool (h q || decide (t0 ≤ q ∧ q < q))) := ((unhide HAq).2 q q5).1
              rw [show (h q || decide (t0 ≤ q ∧ q < q)) = false by rw [unhide b3 q (by omega) hq]; simp] at e
              exact e
            have hf0 := ((unhide HAq).2 q q5).2
            have HB2 := hide ((unhide HBq).far (q := q) (show w1.heap.size ≠ w1.heap.size + 1 by omega) (.bool true))
            have HA2 : Hid (ArB (wr.setCell ⟨w1.heap.size + 1, q, none⟩ (.bool true)) (w1.heap.size + 1) 2100 (fun j => h j || decide (t0 ≤ j ∧ j < q + 1))) := hide (((unhide HAq).set q5 true).congr (fun i _ => by
              by_cases e : i = q
              · subst e; simp; right; omega
              · simp only [e, if_false]; congr 2; simp; omega))
            have hB2' := hBq.setCell (p := ⟨w1.heap.size + 1, q, none⟩) (by show w1.heap.size ≤ w1.heap.size + 1; omega) (.bool true)
            go_wp2_with fail
            go_roundw
            case measure => simp [intOf]; omega
            case rel => exact ⟨q + 1, by go_num, by omega, by omega, HB2, HA2, hB2', by rw [World.size_setCell]; exact hsq⟩
          · have hqe : (q : Int) = t0 + n := by omega
            have HA2 : Hid (ArB wr (w1.heap.size + 1) 2100 (upH h t0 n)) := hide ((unhide HAq).congr (fun i _ => by unfold upH; congr 1; exact decide_eq_decide.2 (by omega)))
            obtain ⟨i1', i2', i3', i4', i5', i6'⟩ : 0 ≤ lf' ∧ lf' < 16 ∧ 5 ≤ nx' ∧ nx' ≤ 1000 ∧ sm + n + lf' = nx' - 5 ∧ 0 ≤ sm + n := ⟨(unhide HI2).1.2.2.1, (unhide HI2).2.1, (unhide HI2).2.2.1, (unhide HI2).2.2.2.1, (unhide HI2).2.2.2.2.1, (unhide HI2).2.2.2.2.2.1⟩
            have hq0 : w1.heap.size < wr.heap.size := by omega
            have hsp : w.heap.size + 1 < wr.heap.size := by omega
            obtain ⟨p0, p1, p2⟩ := (unhide HPl).keep hsz1 hBq
            obtain ⟨⟨x0, x1, x2⟩, f0, f1, f2⟩ := unhide HBq
            have CC := hide (fun (v : Later wr) => later_call (chkS (unhide HI2) (some ⟨w.heap.size, 0, none⟩) v.val (unhide HSh v.val (hBq.trans (v.ok.mono hBq.size)))))
            have CB := hide (fun (v : Later wr) => later_call (b1000 (some ⟨w.heap.size, 0, none⟩) v.val))
            clear HAq b3
            go_upto_region 36 with fail
            have u0 : ∀ v : Later wr, v.val.cell? ⟨w.heap.size + 1, 0, none⟩ = some (.int .i64 1) := Later.cell (by show w.heap.size + 1 < _; omega) p0
            have u1 : ∀ v : Later wr, v.val.cell? ⟨w.heap.size + 1, 1, none⟩ = some (.int .i64 1000) := Later.cell (by show w.heap.size + 1 < _; omega) p1
            have u2 : ∀ v : Later wr, v.val.cell? ⟨w.heap.size + 1, 2, none⟩ = some (.slice (some ⟨w.heap.size, 0, none⟩) 1 1) := Later.cell (by show w.heap.size + 1 < _; omega) p2
            have u3 : ∀ v : Later wr, v.val.cell? ⟨w1.heap.size, 0, none⟩ = some (.int .i64 0) := Later.cell hq0 x0
            have u4 : ∀ v : Later wr, v.val.cell? ⟨w1.heap.size, 1, none⟩ = some (.int .i64 ba') := Later.cell hq0 x1
            have u5 : ∀ v : Later wr, v.val.cell? ⟨w1.heap.size, 2, none⟩ = some (.int .i64 lf') := Later.cell hq0 x2
            have e1 : IntKind.i64.wrap (sm + n) = sm + n := IntWalk.i64_in _ (by omega)
            have e2 : IntKind.i64.wrap (sm + n + lf') = sm + n + lf' := IntWalk.i64_in _ (by omega)
            have e3 : IntKind.i64.wrap (nx' - 5) = nx' - 5 := IntWalk.i64_in _ (by omega)
            have e4 : ((sm + n + lf') != (nx' - 5)) = false := by rw [i5']; simp
            have e5 : ¬ (16 : Int) ≤ lf' := by omega
            have hi5 := hide i5'
            clear i5'
            refine wp_region_later wr (by kernel_rfl) (by kernel_rfl) (by repeat (first | exact Below.refl _ _ | assumption | refine Below.alloc ?_ (by first | (simp; done) | (simp; omega) | omega) _ | refine Below.setCell ?_ (by first | (simp; done) | (simp; omega) | omega) _ | apply Below.drew | refine Below.trans ?_ (Below.mono (by assumption) (by first | (simp; done) | (simp; omega) | omega)))) ?_; (repeat (first | go_big_quiet_skip | (go_big_quiet_want; (first | ((fail); go_big_quiet_on; simp only [Act.put, List.setIfInBounds_toArray, List.set_cons_zero, List.set_cons_succ]) | (go_big_quiet_op; (first | go_big_quiet_on | go_big_quiet_call ((first | (go_at_call 12; exact later_same (num15_any _ _)) | (go_at_call 13; exact unhide CC _) | (go_at_call 21; exact unhide CB _))))))))); refine wpQuiet_nil ?_
            intro w7 hw7
            have HB7 := hide ((unhide HBq).keep hq0 hw7)
            have HA7 := hide ((unhide HA2).keep hw7)
            have hB7 := hBq.trans (hw7.mono hBq.size)
            have hs7 : w1.heap.size + 1 < w7.heap.size := Nat.lt_of_lt_of_le hsq hw7.size
            clear u0 u1 u2 u3 u4 u5 p0 p1 p2 x0 x1 x2 f0 f1 f2 CC CB HBq HA2 hBq hsq hw7
            go_wp2
            go_roundw
            case measure => simp [intOf]; omega
            case rel => exact ⟨k + 1, nx', sm + n, ba', lf', upH h t0 n, by omega, by go_num, rfl, rfl, HI2, HB7, HA7, hB7, hs7⟩
    · clear HBf HAr HI
      go_wp2_with fail
      refine (works15_any _).mono ?_
      rintro e w6 ⟨rfl, hw6⟩
      have hB6 := hBt.trans (hw6.mono hBt.size)
      go_wp2
      go_ret
      exact ⟨rfl, hB6⟩
end Go.Proofs.Ytkmoefijncjlhaa
