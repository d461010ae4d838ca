/- The walk of LogWrong: it returns true. -/
import Derived.Test.YtdkpadiaikfdpaaLgW
import Derived.Test.YtdkpadiaikfdpaaLgV
namespace Go.Proofs.Ytdkpadiaikfdpaa
set_option linter.unusedVariables false
set_option linter.unusedSimpArgs false
open Go.RowKit

theorem right13_any (A : Option Addr) (n c : Nat) (hn : n ≤ 200) (w : World) : Calls Try.prog 14 #[.slice A n c] w fun e w' => e = .returned (.bool (decide (1 ≤ n))) ∧ w = w' := by
  by_cases h1 : 1 ≤ n
  · go_enter Try.func14, Try.ntmps14
    go_wp2
    go_ret
    exact ⟨ret_bool (by first | (simp; done) | (rw [Bool.eq_iff_iff]; simp; omega) | (simp; omega)), rfl⟩
  · go_enter Try.func14, Try.ntmps14
    go_wp2
    go_ret
    exact ⟨ret_bool (by first | (simp; done) | (rw [Bool.eq_iff_iff]; simp; omega) | (simp; omega)), rfl⟩

set_option maxRecDepth 100000 in
set_option maxHeartbeats 4000000 in
theorem logWrong_walk (A : Option Addr) (len cap : Nat) (A2 : Option Addr) (len2 cap2 : Nat) (w : World) (hr : RowOk w 5 [.int .u64] A len cap) (hr2 : RowOk w 5 [.int .i64, .int .i64, .int .i64, .int .u64, .int .u64, .int .u64] A2 len2 cap2) :
    Calls Try.prog 3 #[.slice A len cap, .slice A2 len2 cap2] w fun e w' => e = .returned (.bool true) ∧ Below w.heap.size w w' := by
  have hm := hr.1
  have hm2 := hr.2.1
  have hm3 := hr2.1
  have hm4 := hr2.2.1
  unfold maxLen at hm2 hm4
  obtain ⟨b, o, z, hA, hc⟩ := hr.ints
  obtain ⟨st, hS, _⟩ := StOk.of_row hr2
  have HS := hide hS
  have HA := hide hA
  have HC := hide (fun i hi => (hc i hi).1 : ∀ i, i < len → w.cell? ⟨b, o + i, none⟩ = some (.int .u64 (z i)))
  have hfew := hide (few13_any A A2 len cap len2 cap2 (by omega) (by omega) w)
  clear hr hr2 hA hc hS
  by_cases hl : ¬ (len ≤ 200 ∧ len2 ≤ 100)
  · have hf := unhide hfew
    rw [show decide (len ≤ 200 ∧ len2 ≤ 100) = false by simpa using hl] at hf
    have HF := hide hf
    clear hf hl hfew
    go_enter Try.func3, Try.ntmps3
    go_wp2_with fail
    refine (unhide HF).mono ?_
    rintro e w0 ⟨rfl, rfl⟩
    go_wp2_with (go_at_call 10; refine (works13_any _).mono ?_; rintro e ww ⟨rfl, hww⟩; obtain ⟨hcww, hfww⟩ := bcell hww; (try (simp only [World.size_drew, World.cell?_drew, World.frozen?_drew] at hcww hfww)); have hzww := hww.size; (try (simp only [World.size_alloc, World.size_setCell, World.size_drew] at hzww)); (try (have hzww_w_0 : w.heap.size < ww.heap.size := by omega)); (try (have hzww_w_1 : w.heap.size + 1 < ww.heap.size := by omega)); (try (have hzww_w_2 : w.heap.size + 1 + 1 < ww.heap.size := by omega)); (try (have hzww_w_3 : w.heap.size + 1 + 1 + 1 < ww.heap.size := by omega)); (try (have hyww_w : w.heap.size ≤ ww.heap.size := by omega)); (try (have hyww_wa : w.heap.size + 1 ≤ ww.heap.size := by omega)))
    go_ret
    exact ⟨rfl, by repeat (first | exact Below.refl _ _ | assumption | refine Below.alloc ?_ (by first | (simp; done) | (simp; omega) | omega) _ | refine Below.setCell ?_ (by first | (simp; done) | (simp; omega) | omega) _ | apply Below.drew | refine Below.trans ?_ (Below.mono (by assumption) (by first | (simp; done) | (simp; omega) | omega)))⟩
  have hl1 : len ≤ 200 := by omega
  have hl2 : len2 ≤ 100 := by omega
  have hf := unhide hfew
  rw [show decide (len ≤ 200 ∧ len2 ≤ 100) = true by simpa using ⟨hl1, hl2⟩] at hf
  have HF := hide hf
  clear hf hl hfew
  by_cases h0 : len < 1
  · have hno : ¬ (1 ≤ len ∧ len ≤ 16384) := by omega
    have hw := hide (fun W => wrong_no A len cap (by omega) hno A2 len2 cap2 W)
    have he := hide (fun W => end_no A len cap (by omega) hno A2 len2 cap2 W)
    have hg := hide (fun W => changes_no A len cap (by omega) hno A2 len2 cap2 W)
    have hri := hide (fun W => right13_any A len cap hl1 W)
    have hd : Hid (decide (1 ≤ len) = false) := hide (by simp; omega)
    go_enter Try.func3, Try.ntmps3
    go_wp2_with fail
    refine (unhide HF).mono ?_
    rintro e w0 ⟨rfl, rfl⟩
    go_wp2_with fail
    refine (unhide hw _).mono ?_
    rintro e w1 ⟨rfl, hb1⟩
    have B1 := hide hb1
    clear hb1
    go_wp2_with fail
    refine (unhide he _).mono ?_
    rintro e w2 ⟨rfl, hb2⟩
    have B2 := hide ((unhide B1).trans (hb2.mono (unhide B1).size))
    clear hb2 B1
    go_wp2_with fail
    refine (unhide hg _).mono ?_
    rintro e w3 ⟨rfl, hb3⟩
    have B3 := hide ((unhide B2).trans (hb3.mono (unhide B2).size))
    clear hb3 B2
    go_wp2_with fail
    have hri2 := unhide hri w3
    rw [unhide hd] at hri2
    refine hri2.mono ?_
    rintro e w4 ⟨rfl, rfl⟩
    clear hri2
    go_wp2_with (first | (go_at_call 15; refine (num13_any _ _).mono ?_; rintro e w' ⟨rfl, rfl⟩) | (go_at_call 10; refine (works13_any _).mono ?_; rintro e ww ⟨rfl, hww⟩; obtain ⟨hcww, hfww⟩ := bcell hww; (try (simp only [World.size_drew, World.cell?_drew, World.frozen?_drew] at hcww hfww)); have hzww := hww.size; (try (simp only [World.size_alloc, World.size_setCell, World.size_drew] at hzww)); (try (have hzww_w_0 : w.heap.size < ww.heap.size := by omega)); (try (have hzww_w_1 : w.heap.size + 1 < ww.heap.size := by omega)); (try (have hzww_w_2 : w.heap.size + 1 + 1 < ww.heap.size := by omega)); (try (have hzww_w_3 : w.heap.size + 1 + 1 + 1 < ww.heap.size := by omega)); (try (have hyww_w : w.heap.size ≤ ww.heap.size := by omega)); (try (have hyww_wa : w.heap.size + 1 ≤ ww.heap.size := by omega))))
    go_ret
    refine ⟨rfl, ?_⟩
    have := unhide B3
    have hsb := this.size
    repeat (first | exact Below.refl _ _ | assumption | refine Below.alloc ?_ (by first | (simp; done) | (simp; omega) | omega) _ | refine Below.setCell ?_ (by first | (simp; done) | (simp; omega) | omega) _ | apply Below.drew | refine Below.trans ?_ (Below.mono (by assumption) (by first | (simp; done) | (simp; omega) | omega)))
  obtain ⟨rfl, hb⟩ := unhide HA (by omega)
  have hw := hide (wrong_yes b o len cap z (by omega) (by omega) A2 len2 cap2 st (by omega) w hb (unhide HC) (unhide HS))
  have he := hide (fun W (h : Below w.heap.size w W) => end_yes b o len cap z (by omega) (by omega) A2 len2 cap2 st (by omega) W (Nat.lt_of_lt_of_le hb h.size) (fun i hi => (h.cell (p := ⟨b, o + i, none⟩) hb).trans (unhide HC i hi)) ((unhide HS).keep h))
  have hg := hide (fun W (h : Below w.heap.size w W) => changes_yes b o len cap z (by omega) (by omega) A2 len2 cap2 st (by omega) W (Nat.lt_of_lt_of_le hb h.size) (fun i hi => (h.cell (p := ⟨b, o + i, none⟩) hb).trans (unhide HC i hi)) ((unhide HS).keep h))
  have hq := hide (fun W (h : Below w.heap.size w W) => refWrong_any b o len cap z (by omega) (by omega) A2 len2 cap2 st (by omega) W (Nat.lt_of_lt_of_le hb h.size) (fun i hi => (h.cell (p := ⟨b, o + i, none⟩) hb).trans (unhide HC i hi)) ((unhide HS).keep h))
  have hri := hide (fun W => right13_any (some ⟨b, o, none⟩) len cap hl1 W)
  have hd : Hid (decide (1 ≤ len) = true) := hide (by simp; omega)
  have hLc := plc_len (chB len z st) len2
  clear HC HS HA
  go_enter Try.func3, Try.ntmps3
  go_wp2_with fail
  refine (unhide HF).mono ?_
  rintro e w0 ⟨rfl, rfl⟩
  go_wp2_with fail
  refine (unhide hw).mono ?_
  rintro e w1 ⟨⟨k, hk1, hk2, hk3, rfl⟩ | ⟨hall, rfl⟩, hb1⟩
  · have B1 := hide hb1
    have K2 := hide hk2
    have K3 := hide hk3
    clear hb1 hk2 hk3
    go_wp2_with fail
    refine (unhide he _ (unhide B1)).mono ?_
    rintro e w2 ⟨⟨hbadf, _⟩ | ⟨_, rfl⟩, hb2⟩
    · exfalso
      rw [hbadf k hk1] at K2
      exact absurd (unhide K2) (by simp)
    have B2 := hide ((unhide B1).trans (hb2.mono (unhide B1).size))
    clear hb2 B1
    go_wp2_with fail
    refine (unhide hg _ (unhide B2)).mono ?_
    rintro e w3 ⟨⟨hbadf, _⟩ | ⟨_, rfl⟩, hb3⟩
    · exfalso
      rw [hbadf k hk1] at K2
      exact absurd (unhide K2) (by simp)
    have B3 := hide ((unhide B2).trans (hb3.mono (unhide B2).size))
    clear hb3 B2
    go_wp2_with fail
    have hri2 := unhide hri w3
    rw [unhide hd] at hri2
    refine hri2.mono ?_
    rintro e w4 ⟨rfl, rfl⟩
    clear hri2
    go_wp2_with fail
    refine (unhide hq _ (unhide B3)).mono ?_
    rintro e w4 ⟨⟨k', hk1', hk2', hk3', u, v, rfl⟩ | ⟨hbadf, _⟩, hb4⟩
    · obtain rfl : k' = k := by
        rcases Nat.lt_trichotomy k' k with h | h | h
        · rw [unhide K3 k' h] at hk2'; cases hk2'
        · exact h
        · have := hk3' k h; rw [unhide K2] at this; cases this
      have B4 := hide ((unhide B3).trans (hb4.mono (unhide B3).size))
      clear hb4 B3 hk2' hk3'
      have kk : ((k' : Int) == (k' : Int)) = true := by simp
      go_wp2_with (first | (go_at_call 15; refine (num13_any _ _).mono ?_; rintro e w' ⟨rfl, rfl⟩) | (go_at_call 10; refine (works13_any _).mono ?_; rintro e ww ⟨rfl, hww⟩; obtain ⟨hcww, hfww⟩ := bcell hww; (try (simp only [World.size_drew, World.cell?_drew, World.frozen?_drew] at hcww hfww)); have hzww := hww.size; (try (simp only [World.size_alloc, World.size_setCell, World.size_drew] at hzww)); (try (have hzww_w_0 : w.heap.size < ww.heap.size := by omega)); (try (have hzww_w_1 : w.heap.size + 1 < ww.heap.size := by omega)); (try (have hzww_w_2 : w.heap.size + 1 + 1 < ww.heap.size := by omega)); (try (have hzww_w_3 : w.heap.size + 1 + 1 + 1 < ww.heap.size := by omega)); (try (have hyww_w : w.heap.size ≤ ww.heap.size := by omega)); (try (have hyww_wa : w.heap.size + 1 ≤ ww.heap.size := by omega))))
      go_ret
      refine ⟨rfl, ?_⟩
      have := unhide B4
      have hsb := this.size
      repeat (first | exact Below.refl _ _ | assumption | refine Below.alloc ?_ (by first | (simp; done) | (simp; omega) | omega) _ | refine Below.setCell ?_ (by first | (simp; done) | (simp; omega) | omega) _ | apply Below.drew | refine Below.trans ?_ (Below.mono (by assumption) (by first | (simp; done) | (simp; omega) | omega)))
    · exfalso
      rw [hbadf k hk1] at K2
      exact absurd (unhide K2) (by simp)
  · have HALL := hide hall
    have B1 := hide hb1
    clear hb1 hall
    go_wp2_with fail
    refine (unhide he _ (unhide B1)).mono ?_
    rintro e w2 ⟨⟨_, b2, c2, rfl, hb2s, hcc2⟩ | ⟨⟨k, hk1, hk2⟩, _⟩, hb2⟩
    rotate_left
    · exfalso
      rw [unhide HALL k hk1] at hk2
      cases hk2
    have B2 := hide ((unhide B1).trans (hb2.mono (unhide B1).size))
    have HE := hide (And.intro hb2s hcc2)
    clear hb2 B1 hb2s hcc2
    go_wp2_with fail
    refine (unhide hg _ (unhide B2)).mono ?_
    rintro e w3 ⟨⟨_, A3, c3, rfl, hr3⟩ | ⟨⟨k, hk1, hk2⟩, _⟩, hb3⟩
    rotate_left
    · exfalso
      rw [unhide HALL k hk1] at hk2
      cases hk2
    have B3 := hide ((unhide B2).trans (hb3.mono (unhide B2).size))
    have HE := hide (And.intro (Nat.lt_of_lt_of_le (unhide HE).1 hb3.size) (fun i hi => (hb3.cell (p := ⟨b2, 0 + i, none⟩) (unhide HE).1).trans ((unhide HE).2 i hi)))
    have HR3 := hide hr3
    clear hb3 B2 hr3
    go_wp2_with fail
    have hri2 := unhide hri w3
    rw [unhide hd] at hri2
    refine hri2.mono ?_
    rintro e w4 ⟨rfl, rfl⟩
    clear hri2
    go_wp2_with fail
    refine (unhide hq _ (unhide B3)).mono ?_
    rintro e w4 ⟨⟨k, hk1, hk2, _⟩ | ⟨_, B5, off5, C5, A5, c5, rfl, hs5, hx5, hr5⟩, hb4⟩
    · exfalso
      rw [unhide HALL k hk1] at hk2
      cases hk2
    have B4 := hide ((unhide B3).trans (hb4.mono (unhide B3).size))
    have HE := hide (And.intro (Nat.lt_of_lt_of_le (unhide HE).1 hb4.size) (fun i hi => (hb4.cell (p := ⟨b2, 0 + i, none⟩) (unhide HE).1).trans ((unhide HE).2 i hi)))
    have HR3 := hide ((unhide HR3).keep hb4)
    have hs := refSame_any b2 0 c2 B5 off5 C5 len (aft len z st len2) (aft len z st len2) (by omega) w4 (unhide HE).2 hx5
    rw [show eqTo (aft len z st len2) (aft len z st len2) len = true from eqTo_iff.2 fun _ _ => rfl] at hs
    have HSM := hide hs
    have HR5 := hide hr5
    clear hb4 B3 hs5 hx5 hr5 hs HE
    go_wp2_with fail
    refine (unhide HSM).mono ?_
    rintro e w5 ⟨rfl, hb5⟩
    have B5' := hide ((unhide B4).trans (hb5.mono (unhide B4).size))
    have HR3 := hide ((unhide HR3).keep hb5)
    have HR5 := hide ((unhide HR5).keep hb5)
    clear hb5 B4
    go_wp2_with fail
    refine (same13_self A3 A5 c3 c5 _ (by omega) w5 (unhide HR3) (unhide HR5)).mono ?_
    rintro e w6 ⟨rfl, hb6⟩
    have B6 := hide ((unhide B5').trans (hb6.mono (unhide B5').size))
    clear hb6 B5' HR3 HR5
    go_wp2_with (first | (go_at_call 15; refine (num13_any _ _).mono ?_; rintro e w' ⟨rfl, rfl⟩) | (go_at_call 10; refine (works13_any _).mono ?_; rintro e ww ⟨rfl, hww⟩; obtain ⟨hcww, hfww⟩ := bcell hww; (try (simp only [World.size_drew, World.cell?_drew, World.frozen?_drew] at hcww hfww)); have hzww := hww.size; (try (simp only [World.size_alloc, World.size_setCell, World.size_drew] at hzww)); (try (have hzww_w_0 : w.heap.size < ww.heap.size := by omega)); (try (have hzww_w_1 : w.heap.size + 1 < ww.heap.size := by omega)); (try (have hzww_w_2 : w.heap.size + 1 + 1 < ww.heap.size := by omega)); (try (have hzww_w_3 : w.heap.size + 1 + 1 + 1 < ww.heap.size := by omega)); (try (have hyww_w : w.heap.size ≤ ww.heap.size := by omega)); (try (have hyww_wa : w.heap.size + 1 ≤ ww.heap.size := by omega))))
    go_ret
    refine ⟨rfl, ?_⟩
    have := unhide B6
    have hsb := this.size
    repeat (first | exact Below.refl _ _ | assumption | refine Below.alloc ?_ (by first | (simp; done) | (simp; omega) | omega) _ | refine Below.setCell ?_ (by first | (simp; done) | (simp; omega) | omega) _ | apply Below.drew | refine Below.trans ?_ (Below.mono (by assumption) (by first | (simp; done) | (simp; omega) | omega)))
end Go.Proofs.Ytdkpadiaikfdpaa
