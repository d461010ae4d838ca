/- The words of an arena at the start, by the reference. -/
import Derived.Test.YtnnllhlcpmmcaaaClK
namespace Go.Proofs.Ytnnllhlcpmmcaaa
set_option linter.unusedVariables false
set_option linter.unusedSimpArgs false
open Go.RowKit

theorem word04_any (w : World) : Calls Try.prog 46 #[.int .i64 0, .int .i64 0] w fun en w' => en = .returned (.int .u64 6) ∧ w = w' := by
  go_enter Try.func46, Try.ntmps46
  go_wp2
  go_ret
  exact ⟨rfl, rfl⟩

def sc0 : Int := 4611686018427387908

set_option maxHeartbeats 1000000 in
theorem make01_any (w : World) : Calls Try.prog 68 #[.agg #[.int .i64 3, .bool false, .int .i64 0]] w fun en w' => en = .returned (.tuple #[.int .u64 sc0, .int .i64 0]) ∧ Below w.heap.size w w' := by
  go_enter Try.func68, Try.ntmps68
  go_wp2
  go_ret2
  exact ⟨rfl, by repeat (first | exact Below.refl _ _ | assumption | refine Below.alloc ?_ (by first | (simp; done) | (simp; omega) | omega) _ | refine Below.setCell ?_ (by first | (simp; done) | (simp; omega) | omega) _ | apply Below.drew | refine Below.trans ?_ (Below.mono (by assumption) (by first | (simp; done) | (simp; omega) | omega)))⟩

theorem scalar01_any (w : World) : Calls Try.prog 47 #[.int .i64 0] w fun en w' => en = .returned (.tuple #[.int .u64 sc0, .int .i64 0]) ∧ Below w.heap.size w w' := by
  go_enter Try.func47, Try.ntmps47
  go_wp2_with fail
  refine (make01_any _).mono ?_
  rintro e w1 ⟨rfl, hw1⟩; obtain ⟨hcw1, hfw1⟩ := bcell hw1; (try (simp only [World.size_drew, World.cell?_drew, World.frozen?_drew] at hcw1 hfw1)); have hzw1 := hw1.size; (try (simp only [World.size_alloc, World.size_setCell, World.size_drew] at hzw1)); (try (have hzw1_w_0 : w.heap.size < w1.heap.size := by omega)); (try (have hzw1_w_1 : w.heap.size + 1 < w1.heap.size := by omega)); (try (have hzw1_w_2 : w.heap.size + 1 + 1 < w1.heap.size := by omega)); (try (have hzw1_w_3 : w.heap.size + 1 + 1 + 1 < w1.heap.size := by omega)); (try (have hyw1_w : w.heap.size ≤ w1.heap.size := by omega)); (try (have hyw1_wa : w.heap.size + 1 ≤ w1.heap.size := by omega))
  go_wp2
  go_ret2
  exact ⟨rfl, by repeat (first | exact Below.refl _ _ | assumption | refine Below.alloc ?_ (by first | (simp; done) | (simp; omega) | omega) _ | refine Below.setCell ?_ (by first | (simp; done) | (simp; omega) | omega) _ | apply Below.drew | refine Below.trans ?_ (Below.mono (by assumption) (by first | (simp; done) | (simp; omega) | omega)))⟩

theorem size06_any (t sp : Int) (s : Value) (n : Nat) (ht : 1 ≤ t ∧ t ≤ 8) (hs : 32 ≤ sp ∧ sp ≤ 4096) (hv : ∃ A len cap, s = .slice A len cap) (hn : (n : Int) = 3 + 2 * t + 2 * sp) (w : World) :
    Calls Try.prog 45 #[.agg #[.int .i64 t, .int .i64 sp, s]] w fun en w' => en = .returned (.int .i64 (n : Nat)) ∧ Below w.heap.size w w' := by
  obtain ⟨A, len, cap, rfl⟩ := hv
  obtain ⟨a1, a2⟩ := ht
  obtain ⟨a3, a4⟩ := hs
  have HN := hide hn
  clear hn
  go_enter Try.func45, Try.ntmps45
  go_wp2
  go_ret
  exact ⟨ret_int (by rw [unhide HN]), by repeat (first | exact Below.refl _ _ | assumption | refine Below.alloc ?_ (by first | (simp; done) | (simp; omega) | omega) _ | refine Below.setCell ?_ (by first | (simp; done) | (simp; omega) | omega) _ | apply Below.drew | refine Below.trans ?_ (Below.mono (by assumption) (by first | (simp; done) | (simp; omega) | omega)))⟩

/-- Words in memory. -/
def IsW (W : World) (b n : Nat) (xs : Nat → Int) : Prop := b < W.heap.size ∧ ∀ i, i < n → W.cell? ⟨b, i, none⟩ = some (.int .u64 (xs i)) ∧ W.frozen? ⟨b, i, none⟩ = false

theorem IsW.keep {w W : World} {b n : Nat} {xs : Nat → Int} (H : IsW w b n xs) (hb : Below w.heap.size w W) : IsW W b n xs :=
  ⟨Nat.lt_of_lt_of_le H.1 hb.size, fun i hi => ⟨(hb.cell (p := ⟨b, i, none⟩) H.1).trans (H.2 i hi).1, (hb.frozen (p := ⟨b, i, none⟩) H.1).trans (H.2 i hi).2⟩⟩
theorem IsW.chg {S : Nat → Prop} {w W : World} {b n : Nat} {xs : Nat → Int} (H : IsW w b n xs) (h : Chg S w W) (hS : ¬ S b) : IsW W b n xs :=
  ⟨Nat.lt_of_lt_of_le H.1 h.size, fun i hi => ⟨(h.cell H.1 hS).trans (H.2 i hi).1, (h.frozen H.1 hS).trans (H.2 i hi).2⟩⟩
theorem IsW.set {W : World} {b n i : Nat} {xs : Nat → Int} (H : IsW W b n xs) (hi : i < n) (v : Int) : IsW (W.setCell ⟨b, i, none⟩ (.int .u64 v)) b n (upd xs i v) :=
  ⟨by simpa using H.1, fun j hj => ⟨by
    by_cases e : j = i
    · subst e
      rw [World.cell?_setCell_same _ _ _ (H.2 j hj).1]
      simp [upd]
    · rw [World.cell?_setCell_other _ _ _ _ (fun x => by injection x with _ x _; omega)]
      simpa [upd, e] using (H.2 j hj).1, by rw [World.frozen?_setCell]; exact (H.2 j hj).2⟩⟩

theorem all64_upd {n : Nat} {xs : Nat → Int} (H : All64 n xs) (i : Nat) {v : Int} (hv : W64 v) : All64 n (upd xs i v) := fun j hj => by
  unfold upd
  split
  · exact hv
  · exact H j hj

/-- A plan in a box. -/
def BoxP (W : World) (b : Nat) (t sp : Int) (A : Option Addr) (len cap : Nat) : Prop :=
  b < W.heap.size ∧ W.cell? ⟨b, 0, none⟩ = some (.int .i64 t) ∧ W.cell? ⟨b, 1, none⟩ = some (.int .i64 sp) ∧ W.cell? ⟨b, 2, none⟩ = some (.slice A len cap)

theorem BoxP.chg {S : Nat → Prop} {w W : World} {b : Nat} {t sp : Int} {A : Option Addr} {len cap : Nat} (H : BoxP w b t sp A len cap) (h : Chg S w W) (hS : ¬ S b) : BoxP W b t sp A len cap :=
  ⟨Nat.lt_of_lt_of_le H.1 h.size, (h.cell H.1 hS).trans H.2.1, (h.cell H.1 hS).trans H.2.2.1, (h.cell H.1 hS).trans H.2.2.2⟩
theorem BoxP.keep {w W : World} {b : Nat} {t sp : Int} {A : Option Addr} {len cap : Nat} (H : BoxP w b t sp A len cap) (h : Below w.heap.size w W) : BoxP W b t sp A len cap :=
  H.chg (S := fun _ => False) (Chg.of h) (fun e => e)

/-- What Start tells. -/
def StTo (w : World) (n : Nat) (F : Int) (en : Ending) (w' : World) : Prop :=
  ∃ b xs, w.heap.size ≤ b ∧ en = .returned (.slice (some ⟨b, 0, none⟩) n n) ∧ IsW w' b n xs ∧ All64 n xs ∧ xs 1 = F ∧ Below w.heap.size w w'

theorem w64_6 : W64 6 := ⟨by decide, by decide⟩
theorem w64_sc : W64 sc0 := ⟨by decide, by decide⟩

set_option maxHeartbeats 4000000 in
theorem start_any (t sp : Int) (A : Option Addr) (len cap : Nat) (S : Nat → ByteArray) (n : Nat) (hp : okP t sp len S) (hn : (n : Int) = 3 + 2 * t + 2 * sp) (w : World) (H : ShOk w A len S) :
    Calls Try.prog 21 #[.agg #[.int .i64 t, .int .i64 sp, .slice A len cap]] w (StTo w n (frontW 0 (2 + ((S 0).size : Nat)) sp 0)) := by
  obtain ⟨ht, hs, hT1, hT2, hT3⟩ := hp
  have h8 := (hT3 0 (by omega)).1
  obtain ⟨b0, o0, rfl, hb0, hc0⟩ := H (by omega)
  have cs := hc0 0 (by omega)
  simp only [Nat.add_zero] at cs
  have CSz := hide (fun W => size06_any t sp (.slice (some ⟨b0, o0, none⟩) len cap) n ht hs ⟨_, _, _, rfl⟩ hn W)
  have CBs := hide (fun W => refBase_any t sp 0 (.slice (some ⟨b0, o0, none⟩) len cap) ht hs (.inl rfl) ⟨_, _, _, rfl⟩ W)
  rw [show bas t sp 0 = 3 + 2 * t by unfold bas; omega] at CBs
  have hln : (0 : Int) < len := by omega
  generalize S 0 = s at *
  have hs8 : (s.size : Int) ≤ 8 := by omega
  have hnle : n ≤ 9000 := by omega
  have ht8 : t ≤ 8 := ht.2
  have ht1 : 1 ≤ t := ht.1
  have hs1 : 32 ≤ sp := hs.1
  have hn83 : 69 ≤ n := by omega
  have HN := hide hn
  have hbn : 3 + 2 * t + 2 + 8 < n := by omega
  obtain ⟨B0, hB0⟩ : ∃ B0 : Nat, (B0 : Int) = 3 + 2 * t := ⟨(3 + 2 * t).toNat, by omega⟩
  rw [← hB0] at CBs hbn
  have hB3 : 5 ≤ B0 := by omega
  have hB4 : B0 ≤ 19 := by omega
  have HF := hide (frontW_64 0 (2 + (s.size : Nat)) sp 0)
  have CF := hide (fun W => refFront_any 0 (2 + (s.size : Nat)) sp 0 W)
  generalize frontW 0 (2 + (s.size : Nat)) sp 0 = F at HF CF ⊢
  obtain ⟨i0, hi0, hz0, hz1, hz2⟩ := info_parts info_u64
  have hmk := fun (W : World) => run_make_rowN (P := Try.prog) 27 36 i0 (.int .u64 0) Try.underlying27 hi0 hz0 .i64 .i64 n n (by omega) (by rw [hz2]; omega) (by omega) W
  rw [hz1] at hmk
  simp only [Nat.mul_one] at hmk
  clear hn hc0 hT3 ht hs H hi0 hz0 hz1 hz2 hB0
  go_enter Try.func21, Try.ntmps21
  go_wp2_with fail
  refine (unhide CSz _).mono ?_
  rintro e w1 ⟨rfl, hw1⟩; obtain ⟨hcw1, hfw1⟩ := bcell hw1; (try (simp only [World.size_drew, World.cell?_drew, World.frozen?_drew] at hcw1 hfw1)); have hzw1 := hw1.size; (try (simp only [World.size_alloc, World.size_setCell, World.size_drew] at hzw1)); (try (have hzw1_w_0 : w.heap.size < w1.heap.size := by omega)); (try (have hzw1_w_1 : w.heap.size + 1 < w1.heap.size := by omega)); (try (have hzw1_w_2 : w.heap.size + 1 + 1 < w1.heap.size := by omega)); (try (have hzw1_w_3 : w.heap.size + 1 + 1 + 1 < w1.heap.size := by omega)); (try (have hyw1_w : w.heap.size ≤ w1.heap.size := by omega)); (try (have hyw1_wa : w.heap.size + 1 ≤ w1.heap.size := by omega))
  have B1 : Below w.heap.size w w1 := by repeat (first | exact Below.refl _ _ | assumption | refine Below.alloc ?_ (by first | (simp; done) | (simp; omega) | omega) _ | refine Below.setCell ?_ (by first | (simp; done) | (simp; omega) | omega) _ | apply Below.drew | refine Below.trans ?_ (Below.mono (by assumption) (by first | (simp; done) | (simp; omega) | omega)))
  have HP1 : Hid (BoxP w1 w.heap.size t sp (some ⟨b0, o0, none⟩) len cap) := hide ⟨by omega, by go_simp, by go_simp, by go_simp⟩
  have HC1 : Hid (w1.cell? ⟨b0, o0, none⟩ = some (.string s) ∧ b0 < w1.heap.size) := hide ⟨(B1.cell (p := ⟨b0, o0, none⟩) hb0).trans cs, by omega⟩
  clear hcw1 hfw1 hw1 cs
  have hA : Below w1.heap.size w1 (w1.alloc (.cells (madeCells #[.int .u64 0] n) 36)) := (Below.refl _ _).alloc (Nat.le_refl _) _
  have HA := hide hA
  have HWA : Hid (IsW (w1.alloc (.cells (madeCells #[.int .u64 0] n) 36)) w1.heap.size n (fun _ => 0)) := hide ⟨by simp, fun i hi => ⟨made_cell w1 (.int .u64 0) n _ i hi, by go_simp⟩⟩
  obtain ⟨_, p0, p1, p2⟩ := (unhide HP1).keep hA
  have cs1 := (hA.cell (p := ⟨b0, o0, none⟩) (unhide HC1).2).trans (unhide HC1).1
  have ea : (⟨b0, o0 + 0, none⟩ : Addr) = ⟨b0, o0, none⟩ := rfl
  generalize hWA : w1.alloc (.cells (madeCells #[.int .u64 0] n) 36) = WA at *
  clear hA
  go_wp2_with fail
  refine (unhide CF _).mono ?_
  rintro en w2 ⟨rfl, hw2⟩
  have hz1 := (unhide HA).size
  have hz2 := hw2.size
  have B2 : Below w1.heap.size w1 w2 := (unhide HA).trans (hw2.mono hz1)
  have HP2 := hide ((unhide HP1).keep B2)
  have HW2 := hide ((unhide HWA).keep hw2)
  have hbw : w1.heap.size < w2.heap.size := (unhide HW2).1
  clear p0 p1 p2 cs1
  obtain ⟨x1, f1⟩ := (unhide HW2).2 1 (by omega)
  obtain ⟨_, p0, p1, p2⟩ := unhide HP2
  have i1 : (1 : Int) < (n : Int) := by omega
  have hwne : w.heap.size ≠ w1.heap.size := by omega
  go_wp2_with fail
  refine (unhide CBs _).mono ?_
  rintro en w3 ⟨rfl, hw3⟩
  have hz3 := hw3.size
  simp only [World.size_setCell] at hz3
  have HW3 := hide (((unhide HW2).set (i := 1) (by omega) F).keep hw3)
  have HP3 := hide ((((unhide HP2).chg (S := fun j => j = w1.heap.size) (Chg.set (S := fun j => j = w1.heap.size) (i := 1) (Chg.refl _ w2) (.inr rfl) (.int .u64 F)) hwne)).keep hw3)
  have HC3 : Hid (Chg (fun j => j = w1.heap.size) w1 w3) := hide (Chg.then (Chg.set1 (Chg.of B2) _) hw3)
  have hbw3 : w1.heap.size < w3.heap.size := (unhide HW3).1
  obtain ⟨x2, f2⟩ := (unhide HW3).2 B0 (by omega)
  have hB5 : B0 ≠ 1 := by omega
  rw [show upd (fun _ => 0) 1 F B0 = 0 by unfold upd; rw [if_neg hB5]] at x2
  have i2 : (B0 : Int) < (n : Int) := by omega
  have i3 : (0 : Int) ≤ (B0 : Int) := by omega
  clear x1 f1 p0 p1 p2 hw3 hw2 HW2 HP2
  obtain ⟨_, p0, p1, p2⟩ := unhide HP3
  go_wp2_with fail
  refine (word04_any _).mono ?_
  rintro en w4 ⟨rfl, rfl⟩
  go_wp2_with fail
  have HW4 := hide ((unhide HW3).set (i := B0) (by omega) 6)
  have HP4 := hide ((unhide HP3).chg (S := fun j => j = w1.heap.size) (Chg.set (S := fun j => j = w1.heap.size) (i := B0) (Chg.refl _ w3) (.inr rfl) (.int .u64 6)) hwne)
  have HC4 : Hid (Chg (fun j => j = w1.heap.size) w1 (w3.setCell ⟨w1.heap.size, B0, none⟩ (.int .u64 6))) := hide (Chg.set1 (unhide HC3) _)
  have HX : Hid (All64 n (upd (upd (fun _ => 0) 1 F) B0 6) ∧ upd (upd (fun _ => 0) 1 F) B0 6 1 = F) := hide ⟨all64_upd (all64_upd (fun _ _ => w64_0) 1 (unhide HF)) B0 w64_6, by unfold upd; rw [if_neg (fun e => hB5 e.symm), if_pos rfl]⟩
  have hs4 : w1.heap.size < (w3.setCell ⟨w1.heap.size, B0, none⟩ (.int .u64 6)).heap.size := by simpa using hbw3
  generalize w3.setCell ⟨w1.heap.size, B0, none⟩ (.int .u64 6) = w4 at *
  generalize upd (upd (fun _ => 0) 1 F) B0 6 = xs4 at HX HW4
  clear x2 f2 p0 p1 p2 HW3 HP3 HC3
  go_loopw [5] (fun i wr => ∃ (k : Nat) (xs : Nat → Int), k ≤ s.size ∧ i = .int .i64 k ∧ Hid (IsW wr w1.heap.size n xs) ∧ Hid (BoxP wr w.heap.size t sp (some ⟨b0, o0, none⟩) len cap) ∧ Hid (Chg (fun j => j = w1.heap.size) w1 wr) ∧ Hid (All64 n xs ∧ xs 1 = F)) (fun i _ => s.size - (intOf i).toNat)
  case atStart => exact ⟨0, xs4, by omega, rfl, HW4, HP4, HC4, HX⟩
  case round =>
    obtain ⟨k, xs, hk, rfl, HWr, HPr, HCr, HXr⟩ := hrel
    by_cases hlt : k < s.size
    · obtain ⟨_, p0, p1, p2⟩ := unhide HPr
      by_cases hc : (s[k]'hlt).toNat = 115
      · have hc' : (((s[k]'hlt).toNat : Int) == 115) = true := by simp; omega
        have hc2 : ((s[k]'hlt).toNat : Int) = 115 := by omega
        clear hc
        go_wp2_with fail
        refine (unhide CBs _).mono ?_
        rintro en w5 ⟨rfl, hw5⟩
        have HW5 := hide ((unhide HWr).keep hw5)
        have HP5 := hide ((unhide HPr).keep hw5)
        have HC5 := hide ((unhide HCr).then hw5)
        clear p0 p1 p2 hw5 HWr HPr HCr
        go_wp2_with fail
        refine (scalar01_any _).mono ?_
        rintro en w6 ⟨rfl, hw6⟩
        have HW6 := hide ((unhide HW5).keep hw6)
        have HP6 := hide ((unhide HP5).keep hw6)
        have HC6 := hide ((unhide HC5).then hw6)
        clear hw6 HW5 HP5 HC5
        obtain ⟨K, hK⟩ : ∃ K : Nat, K = B0 + 2 + k := ⟨_, rfl⟩
        have hKi : (K : Int) = (B0 : Int) + 2 + (k : Int) := by omega
        obtain ⟨x5, f5⟩ := (unhide HW6).2 K (by omega)
        have hKt : ((B0 : Int) + 2 + (k : Int)).toNat = K := by omega
        have j1 : (B0 : Int) + 2 + (k : Int) < (n : Int) := by omega
        have j2 : 0 ≤ (B0 : Int) + 2 + (k : Int) := by omega
        have HW7 := hide ((unhide HW6).set (i := K) (by omega) sc0)
        have HP7 := hide ((unhide HP6).chg (S := fun j => j = w1.heap.size) (Chg.set (S := fun j => j = w1.heap.size) (i := K) (Chg.refl _ w6) (.inr rfl) (.int .u64 sc0)) hwne)
        have HC7 : Hid (Chg (fun j => j = w1.heap.size) w1 (w6.setCell ⟨w1.heap.size, K, none⟩ (.int .u64 sc0))) := hide (Chg.set1 (unhide HC6) _)
        have HX7 : Hid (All64 n (upd xs K sc0) ∧ upd xs K sc0 1 = F) := hide ⟨all64_upd (unhide HXr).1 K w64_sc, by unfold upd; rw [if_neg (by omega)]; exact (unhide HXr).2⟩
        have HKi := hide hKi
        clear hK hKi HW6 HP6 HC6
        go_wp2
        go_roundw
        case measure => simp [intOf]; omega
        case rel => exact ⟨k + 1, _, by omega, by go_num, HW7, HP7, HC7, HX7⟩
      · have hc' : (((s[k]'hlt).toNat : Int) == 115) = false := by simp; omega
        have hc2 : ¬ ((s[k]'hlt).toNat : Int) = 115 := by omega
        clear hc
        go_wp2
        go_roundw
        case measure => simp [intOf]; omega
        case rel => exact ⟨k + 1, _, by omega, by go_num, HWr, HPr, HCr, HXr⟩
    · go_wp2
      go_ret
      exact ⟨_, _, by omega, rfl, unhide HWr, (unhide HXr).1, (unhide HXr).2, B1.trans ((unhide HCr).below (n := w.heap.size) (fun i e => by subst e; omega) (by omega))⟩
end Go.Proofs.Ytnnllhlcpmmcaaa
