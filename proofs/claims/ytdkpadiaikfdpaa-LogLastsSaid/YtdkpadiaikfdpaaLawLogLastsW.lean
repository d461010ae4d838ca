/- The walk of LogLasts: it returns true. -/
import Derived.Test.YtdkpadiaikfdpaaLgW
import Derived.Test.YtdkpadiaikfdpaaLgU
namespace Go.Proofs.Ytdkpadiaikfdpaa
set_option linter.unusedVariables false
set_option linter.unusedSimpArgs false
open Go.RowKit

set_option maxRecDepth 100000 in
set_option maxHeartbeats 4000000 in
theorem logLasts_walk (A : Option Addr) (len cap : Nat) (A2 : Option Addr) (len2 cap2 : Nat) (w : World) (hr : RowOk w 5 [.int .u64] A len cap) (hr2 : RowOk w 5 [.int .i64, .int .i64, .int .i64, .int .u64, .int .u64, .int .u64] A2 len2 cap2) :
    Calls Try.prog 4 #[.slice A len cap, .slice A2 len2 cap2] w fun e w' => e = .returned (.bool true) ∧ Below w.heap.size w w' := by
  have hm := hr.1
  have hm2 := hr.2.1
  have hm3 := hr2.1
  have hm4 := hr2.2.1
  unfold maxLen at hm2 hm4
  obtain ⟨b, o, z, hA, hc⟩ := hr.ints
  obtain ⟨st, hS, _⟩ := StOk.of_row hr2
  have HS := hide hS
  have HA := hide hA
  have HC := hide (fun i hi => (hc i hi).1 : ∀ i, i < len → w.cell? ⟨b, o + i, none⟩ = some (.int .u64 (z i)))
  have hfew := hide (fun W => few13_any A A2 len cap len2 cap2 (by omega) (by omega) W)
  clear hr hr2 hA hc hS
  by_cases hl : ¬ (len ≤ 200 ∧ len2 ≤ 100)
  · have hen := hide (end_some A len cap A2 len2 cap2 st (by omega) (by omega) b o z w (unhide HA) (unhide HC) (unhide HS))
    have hd : Hid (decide (len ≤ 200 ∧ len2 ≤ 100) = false) := hide (by simpa using hl)
    clear hl
    go_enter Try.func4, Try.ntmps4
    go_wp2_with fail
    refine (unhide hen).mono ?_
    rintro e w1 ⟨⟨v, E, rfl⟩, hb1⟩
    have hsb := hb1.size
    go_wp2_with fail
    have hf := unhide hfew w1
    rw [unhide hd] at hf
    refine hf.mono ?_
    rintro e w0 ⟨rfl, rfl⟩
    clear hf
    go_wp2_with (go_at_call 10; refine (works13_any _).mono ?_; rintro e ww ⟨rfl, hww⟩; obtain ⟨hcww, hfww⟩ := bcell hww; (try (simp only [World.size_drew, World.cell?_drew, World.frozen?_drew] at hcww hfww)); have hzww := hww.size; (try (simp only [World.size_alloc, World.size_setCell, World.size_drew] at hzww)); (try (have hzww_w_0 : w.heap.size < ww.heap.size := by omega)); (try (have hzww_w_1 : w.heap.size + 1 < ww.heap.size := by omega)); (try (have hzww_w_2 : w.heap.size + 1 + 1 < ww.heap.size := by omega)); (try (have hzww_w_3 : w.heap.size + 1 + 1 + 1 < ww.heap.size := by omega)); (try (have hyww_w : w.heap.size ≤ ww.heap.size := by omega)); (try (have hyww_wa : w.heap.size + 1 ≤ ww.heap.size := by omega)))
    go_ret
    exact ⟨rfl, by repeat (first | exact Below.refl _ _ | assumption | refine Below.alloc ?_ (by first | (simp; done) | (simp; omega) | omega) _ | refine Below.setCell ?_ (by first | (simp; done) | (simp; omega) | omega) _ | apply Below.drew | refine Below.trans ?_ (Below.mono (by assumption) (by first | (simp; done) | (simp; omega) | omega)))⟩
  have hl1 : len ≤ 200 := by omega
  have hl2 : len2 ≤ 100 := by omega
  have hd : Hid (decide (len ≤ 200 ∧ len2 ≤ 100) = true) := hide (by simpa using ⟨hl1, hl2⟩)
  clear hl
  by_cases h0 : len < 1
  · have hno : ¬ (1 ≤ len ∧ len ≤ 16384) := by omega
    have he := hide (fun W => end_no A len cap (by omega) hno A2 len2 cap2 W)
    clear hno
    go_enter Try.func4, Try.ntmps4
    go_wp2_with fail
    refine (unhide he _).mono ?_
    rintro e w1 ⟨rfl, hb1⟩
    have hsb := hb1.size
    go_wp2_with fail
    have hf := unhide hfew w1
    rw [unhide hd] at hf
    refine hf.mono ?_
    rintro e w0 ⟨rfl, rfl⟩
    clear hf
    go_wp2_with (first | (go_at_call 15; refine (num13_any _ _).mono ?_; rintro e w' ⟨rfl, rfl⟩) | (go_at_call 10; refine (works13_any _).mono ?_; rintro e ww ⟨rfl, hww⟩; obtain ⟨hcww, hfww⟩ := bcell hww; (try (simp only [World.size_drew, World.cell?_drew, World.frozen?_drew] at hcww hfww)); have hzww := hww.size; (try (simp only [World.size_alloc, World.size_setCell, World.size_drew] at hzww)); (try (have hzww_w_0 : w.heap.size < ww.heap.size := by omega)); (try (have hzww_w_1 : w.heap.size + 1 < ww.heap.size := by omega)); (try (have hzww_w_2 : w.heap.size + 1 + 1 < ww.heap.size := by omega)); (try (have hzww_w_3 : w.heap.size + 1 + 1 + 1 < ww.heap.size := by omega)); (try (have hyww_w : w.heap.size ≤ ww.heap.size := by omega)); (try (have hyww_wa : w.heap.size + 1 ≤ ww.heap.size := by omega))))
    go_ret
    exact ⟨rfl, by repeat (first | exact Below.refl _ _ | assumption | refine Below.alloc ?_ (by first | (simp; done) | (simp; omega) | omega) _ | refine Below.setCell ?_ (by first | (simp; done) | (simp; omega) | omega) _ | apply Below.drew | refine Below.trans ?_ (Below.mono (by assumption) (by first | (simp; done) | (simp; omega) | omega)))⟩
  obtain ⟨rfl, hb⟩ := unhide HA (by omega)
  have he := hide (end_yes b o len cap z (by omega) (by omega) A2 len2 cap2 st (by omega) w hb (unhide HC) (unhide HS))
  clear HA
  go_enter Try.func4, Try.ntmps4
  go_wp2_with fail
  refine (unhide he).mono ?_
  rintro e w1 ⟨⟨hok, b2, c2, rfl, hb2s, hcc2⟩ | ⟨_, rfl⟩, hb1⟩
  rotate_left
  · have hsb := hb1.size
    go_wp2_with fail
    have hf := unhide hfew w1
    rw [unhide hd] at hf
    refine hf.mono ?_
    rintro e w0 ⟨rfl, rfl⟩
    clear hf
    go_wp2_with (first | (go_at_call 15; refine (num13_any _ _).mono ?_; rintro e w' ⟨rfl, rfl⟩) | (go_at_call 10; refine (works13_any _).mono ?_; rintro e ww ⟨rfl, hww⟩; obtain ⟨hcww, hfww⟩ := bcell hww; (try (simp only [World.size_drew, World.cell?_drew, World.frozen?_drew] at hcww hfww)); have hzww := hww.size; (try (simp only [World.size_alloc, World.size_setCell, World.size_drew] at hzww)); (try (have hzww_w_0 : w.heap.size < ww.heap.size := by omega)); (try (have hzww_w_1 : w.heap.size + 1 < ww.heap.size := by omega)); (try (have hzww_w_2 : w.heap.size + 1 + 1 < ww.heap.size := by omega)); (try (have hzww_w_3 : w.heap.size + 1 + 1 + 1 < ww.heap.size := by omega)); (try (have hyww_w : w.heap.size ≤ ww.heap.size := by omega)); (try (have hyww_wa : w.heap.size + 1 ≤ ww.heap.size := by omega))))
    go_ret
    exact ⟨rfl, by repeat (first | exact Below.refl _ _ | assumption | refine Below.alloc ?_ (by first | (simp; done) | (simp; omega) | omega) _ | refine Below.setCell ?_ (by first | (simp; done) | (simp; omega) | omega) _ | apply Below.drew | refine Below.trans ?_ (Below.mono (by assumption) (by first | (simp; done) | (simp; omega) | omega)))⟩
  have B1 := hide hb1
  have hs1 := hb1.size
  have HCC := hide hcc2
  have HOK := hide (fun x => aft_last (m := len) (z := z) (st := st) x len2 hok)
  clear hok hcc2 hb1 he
  have lnb : ((len : Int) != (len : Int)) = false := by simp
  go_wp2_with fail
  have hf := unhide hfew w1
  rw [unhide hd] at hf
  refine hf.mono ?_
  rintro e w0 ⟨rfl, rfl⟩
  clear hf
  go_wp2_with (go_at_call 15; refine (num13_any _ _).mono ?_; rintro e w' ⟨rfl, rfl⟩)
  go_loopw [7] (fun i wr => ∃ k : Nat, k ≤ len ∧ i = .int .i64 k ∧ Below w1.heap.size w1 wr) (fun i _ => len - (intOf i).toNat)
  case atStart => exact ⟨0, Nat.zero_le _, rfl, Below.refl _ _⟩
  case round =>
    obtain ⟨k, hk, rfl, hB⟩ := hrel
    have hBw : Below w.heap.size w wr := (unhide B1).trans (hB.mono hs1)
    have hsw := hB.size
    by_cases hlt : k < len
    · have b0 : (0 : Int) ≤ (k : Int) := by omega
      have b1 : (k : Int) < (len : Int) := by omega
      have q1 := (hBw.cell (p := ⟨b, o + k, none⟩) hb).trans (unhide HC k hlt)
      have q2 := (hB.cell (p := ⟨b2, 0 + k, none⟩) hb2s).trans (unhide HCC k hlt)
      rw [Nat.zero_add] at q2
      have hv := unhide HOK k
      have hz := lst_lt (pLa st k) len2
      have hla := hide (last_any A2 len2 cap2 st k (by omega) wr ((unhide HS).keep hBw))
      have HST := hide ((unhide HS).keep hBw)
      have hbw : b < wr.heap.size := by omega
      have hb2w : b2 < wr.heap.size := by omega
      generalize lst (pLa st k) len2 = y at hv hz hla
      generalize aft len z st len2 k = av at hv q2
      by_cases hy : 0 ≤ y
      · obtain ⟨q, rfl⟩ : ∃ q : Nat, y = q := ⟨y.toNat, by omega⟩
        rw [if_pos hy, Int.toNat_natCast] at hv
        have hql : q < len2 := by omega
        have hla' := unhide hla
        rw [show max 0 (q : Int) = q by omega, show decide (0 ≤ (q : Int)) = true by simp] at hla'
        have HLA := hide hla'
        obtain ⟨bs, os, rfl, hbs, hcs⟩ := unhide HST (by omega)
        have c4 := (hcs q hql).2.2.2.2.1
        rw [← hv] at c4
        have q0 : (0 : Int) ≤ (q : Int) := by omega
        have q3 : (q : Int) < (len2 : Int) := by omega
        have hne : (av != av) = false := by simp
        clear hla hla' hcs hv hy hz
        go_wp2_with fail
        refine (unhide HLA).mono ?_
        rintro e w3 ⟨rfl, hw3⟩; obtain ⟨hcw3, hfw3⟩ := bcell hw3; (try (simp only [World.size_drew, World.cell?_drew, World.frozen?_drew] at hcw3 hfw3)); have hzw3 := hw3.size; (try (simp only [World.size_alloc, World.size_setCell, World.size_drew] at hzw3)); (try (have hzw3_wr_0 : wr.heap.size < w3.heap.size := by omega)); (try (have hzw3_wr_1 : wr.heap.size + 1 < w3.heap.size := by omega)); (try (have hzw3_wr_2 : wr.heap.size + 1 + 1 < w3.heap.size := by omega)); (try (have hzw3_wr_3 : wr.heap.size + 1 + 1 + 1 < w3.heap.size := by omega)); (try (have hyw3_wr : wr.heap.size ≤ w3.heap.size := by omega)); (try (have hyw3_wra : wr.heap.size + 1 ≤ w3.heap.size := by omega))
        have hbs3 : bs < wr.heap.size := hbs
        go_wp2
        go_roundw
        case measure => simp [intOf]; omega
        case rel => exact ⟨k + 1, by omega, by go_num, by repeat (first | exact Below.refl _ _ | assumption | refine Below.alloc ?_ (by first | (simp; done) | (simp; omega) | omega) _ | refine Below.setCell ?_ (by first | (simp; done) | (simp; omega) | omega) _ | apply Below.drew | refine Below.trans ?_ (Below.mono (by assumption) (by first | (simp; done) | (simp; omega) | omega)))⟩
      · rw [if_neg hy] at hv
        have hym : y = -1 := by omega
        have hla' := unhide hla
        rw [show max 0 y = 0 by omega, show decide (0 ≤ y) = false by simpa using hy] at hla'
        have HLA := hide hla'
        rw [hv] at q2
        have hne : (z k != z k) = false := by simp
        clear hla hla' hv hy hz hym
        go_wp2_with fail
        refine (unhide HLA).mono ?_
        rintro e w3 ⟨rfl, hw3⟩; obtain ⟨hcw3, hfw3⟩ := bcell hw3; (try (simp only [World.size_drew, World.cell?_drew, World.frozen?_drew] at hcw3 hfw3)); have hzw3 := hw3.size; (try (simp only [World.size_alloc, World.size_setCell, World.size_drew] at hzw3)); (try (have hzw3_wr_0 : wr.heap.size < w3.heap.size := by omega)); (try (have hzw3_wr_1 : wr.heap.size + 1 < w3.heap.size := by omega)); (try (have hzw3_wr_2 : wr.heap.size + 1 + 1 < w3.heap.size := by omega)); (try (have hzw3_wr_3 : wr.heap.size + 1 + 1 + 1 < w3.heap.size := by omega)); (try (have hyw3_wr : wr.heap.size ≤ w3.heap.size := by omega)); (try (have hyw3_wra : wr.heap.size + 1 ≤ w3.heap.size := by omega))
        go_wp2
        go_roundw
        case measure => simp [intOf]; omega
        case rel => exact ⟨k + 1, by omega, by go_num, by repeat (first | exact Below.refl _ _ | assumption | refine Below.alloc ?_ (by first | (simp; done) | (simp; omega) | omega) _ | refine Below.setCell ?_ (by first | (simp; done) | (simp; omega) | omega) _ | apply Below.drew | refine Below.trans ?_ (Below.mono (by assumption) (by first | (simp; done) | (simp; omega) | omega)))⟩
    · obtain rfl : k = len := by omega
      have hsB := hBw.size
      go_wp2_with (go_at_call 10; refine (works13_any _).mono ?_; rintro e ww ⟨rfl, hww⟩; obtain ⟨hcww, hfww⟩ := bcell hww; (try (simp only [World.size_drew, World.cell?_drew, World.frozen?_drew] at hcww hfww)); have hzww := hww.size; (try (simp only [World.size_alloc, World.size_setCell, World.size_drew] at hzww)); (try (have hzww_w_0 : w.heap.size < ww.heap.size := by omega)); (try (have hzww_w_1 : w.heap.size + 1 < ww.heap.size := by omega)); (try (have hzww_w_2 : w.heap.size + 1 + 1 < ww.heap.size := by omega)); (try (have hzww_w_3 : w.heap.size + 1 + 1 + 1 < ww.heap.size := by omega)); (try (have hyww_w : w.heap.size ≤ ww.heap.size := by omega)); (try (have hyww_wa : w.heap.size + 1 ≤ ww.heap.size := by omega)))
      go_ret
      exact ⟨rfl, by repeat (first | exact Below.refl _ _ | assumption | refine Below.alloc ?_ (by first | (simp; done) | (simp; omega) | omega) _ | refine Below.setCell ?_ (by first | (simp; done) | (simp; omega) | omega) _ | apply Below.drew | refine Below.trans ?_ (Below.mono (by assumption) (by first | (simp; done) | (simp; omega) | omega)))⟩
end Go.Proofs.Ytdkpadiaikfdpaa
