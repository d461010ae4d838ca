/- The walk of LogParts: it returns true. -/
import Derived.Test.YtdkpadiaikfdpaaLgW
import Derived.Test.YtdkpadiaikfdpaaLgU
import Derived.Test.YtdkpadiaikfdpaaLawLogWrongW
namespace Go.Proofs.Ytdkpadiaikfdpaa
set_option linter.unusedVariables false
set_option linter.unusedSimpArgs false
open Go.RowKit

theorem aft_add (m : Nat) (z : Nat → Int) (st : Nat → Nat → Int) (a : Nat) : ∀ j, aft m (aft m z st a) (fun i => st (a + i)) j = aft m z st (a + j)
  | 0 => rfl
  | j + 1 => by
    show doX m (aft m (aft m z st a) (fun i => st (a + i)) j) _ _ _ _ = doX m (aft m z st (a + j)) _ _ _ _
    rw [aft_add m z st a j]
    rfl

theorem okS_add (m : Nat) (z : Nat → Int) (st : Nat → Nat → Int) (a j : Nat) : okS m (aft m z st a) (fun i => st (a + i)) j = okS m z st (a + j) := by
  unfold okS
  rw [aft_add]

theorem refSame_nil (A B : Option Addr) (c d : Nat) (w : World) : Calls Try.prog 17 #[.slice A 0 c, .slice B 0 d] w fun e w' => e = .returned (.bool true) ∧ Below w.heap.size w w' := by
  go_enter Try.func17, Try.ntmps17
  go_wp2
  refine wp_loop_rounds 1 ?_
  rw [rounds_succ]
  go_wp2
  go_ret
  exact ⟨rfl, Below.refl _ _⟩

theorem StOk.pre {w : World} {A : Option Addr} {len : Nat} {st : Nat → Nat → Int} (h : StOk w A len st) {a : Nat} (ha : a ≤ len) : StOk w A a st := fun h0 => by
  obtain ⟨b, o, e, hb, hc⟩ := h (by omega)
  exact ⟨b, o, e, hb, fun i hi => hc i (by omega)⟩

theorem StOk.post {w : World} {bs os len : Nat} {st : Nat → Nat → Int} (h : StOk w (some ⟨bs, os, none⟩) len st) (a : Nat) : StOk w (some ⟨bs, os + a * 6, none⟩) (len - a) (fun i => st (a + i)) := fun h0 => by
  obtain ⟨b, o, e, hb, hc⟩ := h (by omega)
  injection e with e
  injection e with e1 e2 _
  subst e1 e2
  refine ⟨bs, os + a * 6, rfl, hb, fun i hi => ?_⟩
  have q := hc (a + i) (by omega)
  rw [Nat.add_mul, ← Nat.add_assoc] at q
  exact q

theorem StOk.cutA {w : World} {A : Option Addr} {len : Nat} {st : Nat → Nat → Int} (h : StOk w A len st) (a : Nat) : StOk w (Option.map (fun x => x.add (a * 6)) A) (len - a) (fun i => st (a + i)) := fun h0 => by
  obtain ⟨b, o, e, _⟩ := h (by omega)
  subst e
  have q := h.post a
  rw [Option.map_some, show (⟨b, o, none⟩ : Addr).add (a * 6) = ⟨b, o + a * 6, none⟩ from by unfold Addr.add; split <;> simp_all]
  exact q h0

set_option maxRecDepth 100000 in
set_option maxHeartbeats 1000000 in
theorem logParts_walk (A : Option Addr) (len cap : Nat) (A2 : Option Addr) (len2 cap2 : Nat) (x : Int) (hwx : (Lit.int .i64 x).wf = true) (w : World) (hr : RowOk w 5 [.int .u64] A len cap) (hr2 : RowOk w 5 [.int .i64, .int .i64, .int .i64, .int .u64, .int .u64, .int .u64] A2 len2 cap2) :
    Calls Try.prog 6 #[.slice A len cap, .slice A2 len2 cap2, .int .i64 x] w fun e w' => e = .returned (.bool true) ∧ Below w.heap.size w w' := by
  have hm := hr.1
  have hm2 := hr.2.1
  have hm3 := hr2.1
  have hm4 := hr2.2.1
  unfold maxLen at hm2 hm4
  obtain ⟨b, o, z, hA, hc⟩ := hr.ints
  obtain ⟨st, hS, _⟩ := StOk.of_row hr2
  have HS := hide hS
  have HA := hide hA
  have HC := hide (fun i hi => (hc i hi).1 : ∀ i, i < len → w.cell? ⟨b, o + i, none⟩ = some (.int .u64 (z i)))
  have hfew := hide (few13_any A A2 len cap len2 cap2 (by omega) (by omega) w)
  clear hr hr2 hA hc hS hwx
  by_cases hl : ¬ (len ≤ 200 ∧ len2 ≤ 100)
  · have hf := unhide hfew
    rw [show decide (len ≤ 200 ∧ len2 ≤ 100) = false by simpa using hl] at hf
    have HF := hide hf
    clear hf hl hfew
    go_enter Try.func6, Try.ntmps6
    go_wp2_with fail
    refine (unhide HF).mono ?_
    rintro e w0 ⟨rfl, rfl⟩
    go_wp2_with (go_at_call 10; refine (works13_any _).mono ?_; rintro e ww ⟨rfl, hww⟩; obtain ⟨hcww, hfww⟩ := bcell hww; (try (simp only [World.size_drew, World.cell?_drew, World.frozen?_drew] at hcww hfww)); have hzww := hww.size; (try (simp only [World.size_alloc, World.size_setCell, World.size_drew] at hzww)); (try (have hzww_w_0 : w.heap.size < ww.heap.size := by omega)); (try (have hzww_w_1 : w.heap.size + 1 < ww.heap.size := by omega)); (try (have hzww_w_2 : w.heap.size + 1 + 1 < ww.heap.size := by omega)); (try (have hzww_w_3 : w.heap.size + 1 + 1 + 1 < ww.heap.size := by omega)); (try (have hyww_w : w.heap.size ≤ ww.heap.size := by omega)); (try (have hyww_wa : w.heap.size + 1 ≤ ww.heap.size := by omega)))
    go_ret
    exact ⟨rfl, by repeat (first | exact Below.refl _ _ | assumption | refine Below.alloc ?_ (by first | (simp; done) | (simp; omega) | omega) _ | refine Below.setCell ?_ (by first | (simp; done) | (simp; omega) | omega) _ | apply Below.drew | refine Below.trans ?_ (Below.mono (by assumption) (by first | (simp; done) | (simp; omega) | omega)))⟩
  have hl1 : len ≤ 200 := by omega
  have hl2 : len2 ≤ 100 := by omega
  have hf := unhide hfew
  rw [show decide (len ≤ 200 ∧ len2 ≤ 100) = true by simpa using ⟨hl1, hl2⟩] at hf
  have HF := hide hf
  clear hf hl hfew
  have hri := hide (right13_any A len cap hl1 w)
  by_cases hx : x < 0
  · go_enter Try.func6, Try.ntmps6
    go_wp2_with fail
    refine (unhide HF).mono ?_
    rintro e w0 ⟨rfl, rfl⟩
    go_wp2_with (go_at_call 10; refine (works13_any _).mono ?_; rintro e ww ⟨rfl, hww⟩; obtain ⟨hcww, hfww⟩ := bcell hww; (try (simp only [World.size_drew, World.cell?_drew, World.frozen?_drew] at hcww hfww)); have hzww := hww.size; (try (simp only [World.size_alloc, World.size_setCell, World.size_drew] at hzww)); (try (have hzww_w_0 : w.heap.size < ww.heap.size := by omega)); (try (have hzww_w_1 : w.heap.size + 1 < ww.heap.size := by omega)); (try (have hzww_w_2 : w.heap.size + 1 + 1 < ww.heap.size := by omega)); (try (have hzww_w_3 : w.heap.size + 1 + 1 + 1 < ww.heap.size := by omega)); (try (have hyww_w : w.heap.size ≤ ww.heap.size := by omega)); (try (have hyww_wa : w.heap.size + 1 ≤ ww.heap.size := by omega)))
    go_ret
    exact ⟨rfl, by repeat (first | exact Below.refl _ _ | assumption | refine Below.alloc ?_ (by first | (simp; done) | (simp; omega) | omega) _ | refine Below.setCell ?_ (by first | (simp; done) | (simp; omega) | omega) _ | apply Below.drew | refine Below.trans ?_ (Below.mono (by assumption) (by first | (simp; done) | (simp; omega) | omega)))⟩
  by_cases hx2 : (len2 : Int) < x
  · go_enter Try.func6, Try.ntmps6
    go_wp2_with fail
    refine (unhide HF).mono ?_
    rintro e w0 ⟨rfl, rfl⟩
    go_wp2_with (go_at_call 10; refine (works13_any _).mono ?_; rintro e ww ⟨rfl, hww⟩; obtain ⟨hcww, hfww⟩ := bcell hww; (try (simp only [World.size_drew, World.cell?_drew, World.frozen?_drew] at hcww hfww)); have hzww := hww.size; (try (simp only [World.size_alloc, World.size_setCell, World.size_drew] at hzww)); (try (have hzww_w_0 : w.heap.size < ww.heap.size := by omega)); (try (have hzww_w_1 : w.heap.size + 1 < ww.heap.size := by omega)); (try (have hzww_w_2 : w.heap.size + 1 + 1 < ww.heap.size := by omega)); (try (have hzww_w_3 : w.heap.size + 1 + 1 + 1 < ww.heap.size := by omega)); (try (have hyww_w : w.heap.size ≤ ww.heap.size := by omega)); (try (have hyww_wa : w.heap.size + 1 ≤ ww.heap.size := by omega)))
    go_ret
    exact ⟨rfl, by repeat (first | exact Below.refl _ _ | assumption | refine Below.alloc ?_ (by first | (simp; done) | (simp; omega) | omega) _ | refine Below.setCell ?_ (by first | (simp; done) | (simp; omega) | omega) _ | apply Below.drew | refine Below.trans ?_ (Below.mono (by assumption) (by first | (simp; done) | (simp; omega) | omega)))⟩
  obtain ⟨a, rfl⟩ : ∃ a : Nat, x = a := ⟨x.toNat, by omega⟩
  have ha : a ≤ len2 := by omega
  by_cases h0 : len < 1
  · have hri2 := unhide hri
    rw [show decide (1 ≤ len) = false by simp; omega] at hri2
    have HR := hide hri2
    clear hri2 hri
    go_enter Try.func6, Try.ntmps6
    go_wp2_with fail
    refine (unhide HF).mono ?_
    rintro e w0 ⟨rfl, rfl⟩
    go_wp2_with fail
    refine (unhide HR).mono ?_
    rintro e w0 ⟨rfl, rfl⟩
    go_wp2_with (go_at_call 10; refine (works13_any _).mono ?_; rintro e ww ⟨rfl, hww⟩; obtain ⟨hcww, hfww⟩ := bcell hww; (try (simp only [World.size_drew, World.cell?_drew, World.frozen?_drew] at hcww hfww)); have hzww := hww.size; (try (simp only [World.size_alloc, World.size_setCell, World.size_drew] at hzww)); (try (have hzww_w_0 : w.heap.size < ww.heap.size := by omega)); (try (have hzww_w_1 : w.heap.size + 1 < ww.heap.size := by omega)); (try (have hzww_w_2 : w.heap.size + 1 + 1 < ww.heap.size := by omega)); (try (have hzww_w_3 : w.heap.size + 1 + 1 + 1 < ww.heap.size := by omega)); (try (have hyww_w : w.heap.size ≤ ww.heap.size := by omega)); (try (have hyww_wa : w.heap.size + 1 ≤ ww.heap.size := by omega)))
    go_ret
    exact ⟨rfl, by repeat (first | exact Below.refl _ _ | assumption | refine Below.alloc ?_ (by first | (simp; done) | (simp; omega) | omega) _ | refine Below.setCell ?_ (by first | (simp; done) | (simp; omega) | omega) _ | apply Below.drew | refine Below.trans ?_ (Below.mono (by assumption) (by first | (simp; done) | (simp; omega) | omega)))⟩
  have hri2 := unhide hri
  rw [show decide (1 ≤ len) = true by simp; omega] at hri2
  have HR := hide hri2
  clear hri2 hri
  obtain ⟨rfl, hb⟩ := unhide HA (by omega)
  have he := hide (fun W (h : Below w.heap.size w W) k (hk : k ≤ len2) => end_yes b o len cap z (by omega) (by omega) A2 k cap2 st (by omega) W (Nat.lt_of_lt_of_le hb h.size) (fun i hi => (h.cell (p := ⟨b, o + i, none⟩) hb).trans (unhide HC i hi)) (((unhide HS).keep h).pre hk))
  have b0 : (0 : Int) ≤ (a : Int) := by omega
  have b1 : (a : Int) ≤ (len2 : Int) := by omega
  have b2 : (len2 : Int) ≤ (cap2 : Int) := by omega
  have b3 : (a : Int) ≤ (cap2 : Int) := by omega
  have b4 : a ≤ cap2 := by omega
  clear HA
  go_enter Try.func6, Try.ntmps6
  go_wp2_with fail
  refine (unhide HF).mono ?_
  rintro e w0 ⟨rfl, rfl⟩
  go_wp2_with fail
  refine (unhide HR).mono ?_
  rintro e w0 ⟨rfl, rfl⟩
  go_wp2_with fail
  refine (unhide he w (Below.refl _ _) len2 (Nat.le_refl _)).mono ?_
  rintro e w1 ⟨⟨hok, b1', c1, rfl, hs1, hx1⟩ | ⟨⟨kb, hkb1, hkb2⟩, rfl⟩, hb1⟩
  · have B1 := hide hb1
    have HOK := hide hok
    have HX1 := hide hx1
    clear hb1 hok hx1
    go_wp2_with fail
    refine (unhide he w1 (unhide B1) a ha).mono ?_
    rintro e w2 ⟨⟨_, b2', c2, rfl, hs2, hx2'⟩ | ⟨⟨kb, hkb1, hkb2⟩, _⟩, hb2⟩
    rotate_left
    · exfalso
      rw [unhide HOK kb (by omega)] at hkb2
      cases hkb2
    have B2 := hide ((unhide B1).trans (hb2.mono (unhide B1).size))
    have HX1 := hide (And.intro (Nat.lt_of_lt_of_le hs1 hb2.size) (fun i hi => (hb2.cell (p := ⟨b1', 0 + i, none⟩) hs1).trans (unhide HX1 i hi)))
    have hth := hide (fun (A3 : Option Addr) (cap3 : Nat) (h3 : StOk w2 A3 (len2 - a) (fun i => st (a + i))) => end_yes b2' 0 len c2 (aft len z st a) (by omega) (by omega) A3 (len2 - a) cap3 (fun i => st (a + i)) (by omega) w2 hs2 hx2' h3)
    have HS2 := hide ((unhide HS).keep (unhide B2))
    clear hb2 B1 hx2' hs1 hs2
    go_wp2_with (go_at_call 15; refine (num13_any _ _).mono ?_; rintro e w' ⟨rfl, rfl⟩)
    refine (unhide hth _ _ (fun h => absurd h (by omega))).mono ?_
    rotate_left
    refine (unhide hth _ _ ((unhide HS2).cutA a)).mono ?_
    rotate_left
    all_goals
      rintro e w3 ⟨⟨_, b3', c3, rfl, hs3, hx3⟩ | ⟨⟨kb, hkb1, hkb2⟩, _⟩, hb3⟩
      rotate_left
      · exfalso
        rw [okS_add, unhide HOK (a + kb) (by omega)] at hkb2
        cases hkb2
      have B3 := hide ((unhide B2).trans (hb3.mono (unhide B2).size))
      have e3 : aft len (aft len z st a) (fun i => st (a + i)) (len2 - a) = aft len z st len2 := by rw [aft_add]; congr 1; omega
      rw [e3] at hx3
      have hsm := refSame_any b3' 0 c3 b1' 0 c1 len (aft len z st len2) (aft len z st len2) (by omega) w3 hx3 (fun i hi => (hb3.cell (p := ⟨b1', 0 + i, none⟩) (unhide HX1).1).trans ((unhide HX1).2 i hi))
      rw [show eqTo (aft len z st len2) (aft len z st len2) len = true from eqTo_iff.2 fun _ _ => rfl] at hsm
      have HSM := hide hsm
      clear hb3 B2 hx3 hs3 e3 hsm hth HX1
      go_wp2_with (go_at_call 15; refine (num13_any _ _).mono ?_; rintro e w' ⟨rfl, rfl⟩)
      refine (unhide HSM).mono ?_
      rintro e w4 ⟨rfl, hb4⟩
      have B4 := hide ((unhide B3).trans (hb4.mono (unhide B3).size))
      clear hb4 B3
      go_wp2_with (go_at_call 10; refine (works13_any _).mono ?_; rintro e ww ⟨rfl, hww⟩; obtain ⟨hcww, hfww⟩ := bcell hww; (try (simp only [World.size_drew, World.cell?_drew, World.frozen?_drew] at hcww hfww)); have hzww := hww.size; (try (simp only [World.size_alloc, World.size_setCell, World.size_drew] at hzww)); (try (have hzww_w_0 : w.heap.size < ww.heap.size := by omega)); (try (have hzww_w_1 : w.heap.size + 1 < ww.heap.size := by omega)); (try (have hzww_w_2 : w.heap.size + 1 + 1 < ww.heap.size := by omega)); (try (have hzww_w_3 : w.heap.size + 1 + 1 + 1 < ww.heap.size := by omega)); (try (have hyww_w : w.heap.size ≤ ww.heap.size := by omega)); (try (have hyww_wa : w.heap.size + 1 ≤ ww.heap.size := by omega)))
      go_ret
      refine ⟨rfl, ?_⟩
      have := unhide B4
      have hsb := this.size
      repeat (first | exact Below.refl _ _ | assumption | refine Below.alloc ?_ (by first | (simp; done) | (simp; omega) | omega) _ | refine Below.setCell ?_ (by first | (simp; done) | (simp; omega) | omega) _ | apply Below.drew | refine Below.trans ?_ (Below.mono (by assumption) (by first | (simp; done) | (simp; omega) | omega)))
  · have B1 := hide hb1
    have HKB := hide (And.intro hkb1 hkb2)
    clear hb1 hkb2
    go_wp2_with fail
    refine (unhide he w1 (unhide B1) a ha).mono ?_
    rintro e w2 ⟨⟨hok2, b2', c2, rfl, hs2, hx2'⟩ | ⟨_, rfl⟩, hb2⟩
    · have B2 := hide ((unhide B1).trans (hb2.mono (unhide B1).size))
      have HOK2 := hide hok2
      have hth := hide (fun (A3 : Option Addr) (cap3 : Nat) (h3 : StOk w2 A3 (len2 - a) (fun i => st (a + i))) => end_yes b2' 0 len c2 (aft len z st a) (by omega) (by omega) A3 (len2 - a) cap3 (fun i => st (a + i)) (by omega) w2 hs2 hx2' h3)
      have HS2 := hide ((unhide HS).keep (unhide B2))
      clear hb2 B1 hx2' hs2 hok2
      go_wp2_with (go_at_call 15; refine (num13_any _ _).mono ?_; rintro e w' ⟨rfl, rfl⟩)
      refine (unhide hth _ _ (fun h => absurd h (by omega))).mono ?_
      rotate_left
      refine (unhide hth _ _ ((unhide HS2).cutA a)).mono ?_
      rotate_left
      all_goals
        rintro e w3 ⟨⟨hok3, _⟩ | ⟨_, rfl⟩, hb3⟩
        · exfalso
          have hka : ¬ kb < a := fun h => by
            have h2 := (unhide HKB).2
            rw [unhide HOK2 kb h] at h2
            cases h2
          have h3 := hok3 (kb - a) (by omega)
          rw [okS_add, show a + (kb - a) = kb by omega, (unhide HKB).2] at h3
          cases h3
        have B3 := hide ((unhide B2).trans (hb3.mono (unhide B2).size))
        clear hb3 B2 hth
        go_wp2_with (first | (go_at_call 15; refine (num13_any _ _).mono ?_; rintro e w' ⟨rfl, rfl⟩) | (go_at_call 17; refine (refSame_nil _ _ _ _ _).mono ?_; rintro e w4 ⟨rfl, hw4⟩; obtain ⟨hcw4, hfw4⟩ := bcell hw4; (try (simp only [World.size_drew, World.cell?_drew, World.frozen?_drew] at hcw4 hfw4)); have hzw4 := hw4.size; (try (simp only [World.size_alloc, World.size_setCell, World.size_drew] at hzw4)); (try (have hzw4_w3_0 : w3.heap.size < w4.heap.size := by omega)); (try (have hzw4_w3_1 : w3.heap.size + 1 < w4.heap.size := by omega)); (try (have hzw4_w3_2 : w3.heap.size + 1 + 1 < w4.heap.size := by omega)); (try (have hzw4_w3_3 : w3.heap.size + 1 + 1 + 1 < w4.heap.size := by omega)); (try (have hyw4_w3 : w3.heap.size ≤ w4.heap.size := by omega)); (try (have hyw4_w3a : w3.heap.size + 1 ≤ w4.heap.size := by omega))) | (go_at_call 10; refine (works13_any _).mono ?_; rintro e ww ⟨rfl, hww⟩; obtain ⟨hcww, hfww⟩ := bcell hww; (try (simp only [World.size_drew, World.cell?_drew, World.frozen?_drew] at hcww hfww)); have hzww := hww.size; (try (simp only [World.size_alloc, World.size_setCell, World.size_drew] at hzww)); (try (have hzww_w_0 : w.heap.size < ww.heap.size := by omega)); (try (have hzww_w_1 : w.heap.size + 1 < ww.heap.size := by omega)); (try (have hzww_w_2 : w.heap.size + 1 + 1 < ww.heap.size := by omega)); (try (have hzww_w_3 : w.heap.size + 1 + 1 + 1 < ww.heap.size := by omega)); (try (have hyww_w : w.heap.size ≤ ww.heap.size := by omega)); (try (have hyww_wa : w.heap.size + 1 ≤ ww.heap.size := by omega))))
        go_ret
        refine ⟨rfl, ?_⟩
        have := unhide B3
        have hsb := this.size
        repeat (first | exact Below.refl _ _ | assumption | refine Below.alloc ?_ (by first | (simp; done) | (simp; omega) | omega) _ | refine Below.setCell ?_ (by first | (simp; done) | (simp; omega) | omega) _ | apply Below.drew | refine Below.trans ?_ (Below.mono (by assumption) (by first | (simp; done) | (simp; omega) | omega)))
    · have B2 := hide ((unhide B1).trans (hb2.mono (unhide B1).size))
      clear hb2 B1
      go_wp2_with (first | (go_at_call 15; refine (num13_any _ _).mono ?_; rintro e w' ⟨rfl, rfl⟩) | (go_at_call 10; refine (works13_any _).mono ?_; rintro e ww ⟨rfl, hww⟩; obtain ⟨hcww, hfww⟩ := bcell hww; (try (simp only [World.size_drew, World.cell?_drew, World.frozen?_drew] at hcww hfww)); have hzww := hww.size; (try (simp only [World.size_alloc, World.size_setCell, World.size_drew] at hzww)); (try (have hzww_w_0 : w.heap.size < ww.heap.size := by omega)); (try (have hzww_w_1 : w.heap.size + 1 < ww.heap.size := by omega)); (try (have hzww_w_2 : w.heap.size + 1 + 1 < ww.heap.size := by omega)); (try (have hzww_w_3 : w.heap.size + 1 + 1 + 1 < ww.heap.size := by omega)); (try (have hyww_w : w.heap.size ≤ ww.heap.size := by omega)); (try (have hyww_wa : w.heap.size + 1 ≤ ww.heap.size := by omega))))
      go_ret
      refine ⟨rfl, ?_⟩
      have := unhide B2
      have hsb := this.size
      repeat (first | exact Below.refl _ _ | assumption | refine Below.alloc ?_ (by first | (simp; done) | (simp; omega) | omega) _ | refine Below.setCell ?_ (by first | (simp; done) | (simp; omega) | omega) _ | apply Below.drew | refine Below.trans ?_ (Below.mono (by assumption) (by first | (simp; done) | (simp; omega) | omega)))
end Go.Proofs.Ytdkpadiaikfdpaa
