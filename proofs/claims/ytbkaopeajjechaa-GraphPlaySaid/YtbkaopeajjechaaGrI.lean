/- The walks of the reference of layer 8, further: Check, a field's kind. -/
import Derived.Test.YtbkaopeajjechaaGrH
namespace Go.Proofs.Ytbkaopeajjechaa
set_option linter.unusedVariables false
set_option linter.unusedSimpArgs false
open Go.RowKit Go.Maps

theorem nm_size (k : Nat) (hk : k ≤ 11) : (nmT k).size = (nmL k).length := by
  have : ∀ k, k < 12 → (nmT k).size = (nmL k).length := by decide
  exact this k (by omega)
theorem nm_at (k i : Nat) (hk : k ≤ 11) (h1 : i < (nmT k).size) (h2 : i < (nmL k).length) : ((nmT k)[i]'h1).toNat = ltrOf ((nmL k)[i]'h2) := by
  have h : ∀ k, k < 12 → ∀ i, i < 4 → (h1 : i < (nmT k).size) → (h2 : i < (nmL k).length) → ((nmT k)[i]'h1).toNat = ltrOf ((nmL k)[i]'h2) := by decide
  have h4 : (nmL k).length ≤ 4 := by
    unfold nmL
    split <;> simp
  exact h k (by omega) i (by omega) h1 h2

set_option maxRecDepth 100000 in
set_option maxHeartbeats 4000000 in
theorem refChk_any (A : Option Addr) (len cap : Nat) (S : Nat → ByteArray) (hlen : len ≤ 9223372036854775807) (hS : ∀ i, i < len → (S i).size ≤ 9223372036854775807) (z : Nat → Int) (w : World) (H : ShOk w A len S) :
    Calls Try.prog 69 #[.slice A len cap, opV z] w fun e w' => e = .returned (.int .i64 (opE len S z)) ∧ Below w.heap.size w w' := by
  have c1 := hide (fun W (hW : Below w.heap.size w W) => right03_any A len cap S hlen hS W (H.keep hW))
  have c2 := hide (fun W => refBare_any z W)
  have c4 := hide (fun W (hW : Below w.heap.size w W) => refSize_any A len cap S hlen hS (z 5) W (H.keep hW))
  clear H hS
  cases e1 : okTB len S with
  | false =>
    have hr := opE_2 (z := z) e1
    rw [e1] at c1
    rw [hr]
    clear e1 hr c2 c4
    go_enter Try.func69, Try.ntmps69
    go_wp2_with fail
    refine (unhide c1 _ (by repeat (first | exact Below.refl _ _ | assumption | refine Below.alloc ?_ (by first | (simp; done) | (simp; omega) | omega) _ | refine Below.setCell ?_ (by first | (simp; done) | (simp; omega) | omega) _ | apply Below.drew | refine Below.trans ?_ (Below.mono (by assumption) (by first | (simp; done) | (simp; omega) | omega))))).mono ?_
    rintro e w2 ⟨rfl, rfl⟩
    go_wp2
    go_ret
    exact ⟨rfl, by repeat (first | exact Below.refl _ _ | assumption | refine Below.alloc ?_ (by first | (simp; done) | (simp; omega) | omega) _ | refine Below.setCell ?_ (by first | (simp; done) | (simp; omega) | omega) _ | apply Below.drew | refine Below.trans ?_ (Below.mono (by assumption) (by first | (simp; done) | (simp; omega) | omega)))⟩
  | true =>
    rw [e1] at c1
    cases e2 : bareB z with
    | false =>
      have hr := opE_180 e1 e2
      rw [e2] at c2
      rw [hr]
      clear e1 e2 hr c4
      go_enter Try.func69, Try.ntmps69
      go_wp2_with fail
      refine (unhide c1 _ (by repeat (first | exact Below.refl _ _ | assumption | refine Below.alloc ?_ (by first | (simp; done) | (simp; omega) | omega) _ | refine Below.setCell ?_ (by first | (simp; done) | (simp; omega) | omega) _ | apply Below.drew | refine Below.trans ?_ (Below.mono (by assumption) (by first | (simp; done) | (simp; omega) | omega))))).mono ?_
      rintro e w2 ⟨rfl, rfl⟩
      go_wp2_with fail
      refine (unhide c2 _).mono ?_
      rintro e w3 ⟨rfl, hb3⟩
      have hz3 := hb3.size
      simp only [World.size_alloc] at hz3
      go_wp2
      go_ret
      exact ⟨rfl, by repeat (first | exact Below.refl _ _ | assumption | refine Below.alloc ?_ (by first | (simp; done) | (simp; omega) | omega) _ | refine Below.setCell ?_ (by first | (simp; done) | (simp; omega) | omega) _ | apply Below.drew | refine Below.trans ?_ (Below.mono (by assumption) (by first | (simp; done) | (simp; omega) | omega)))⟩
    | true =>
      have r1 : Hid (¬ slotP z → opE len S z = 181) := hide (opE_181 e1 e2)
      have r2 : Hid (slotP z → z 0 = 1 → opE len S z = ofE len S (z 5)) := hide (opE_of e1 e2)
      have r3 : Hid (slotP z → ¬ z 0 = 1 → ¬ valP z → opE len S z = 182) := hide (opE_182 e1 e2)
      have r4 : Hid (slotP z → ¬ z 0 = 1 → valP z → opE len S z = 0) := hide (opE_0 e1 e2)
      have hP := bareB_iff.1 e2
      obtain ⟨k, hk0⟩ : ∃ k : Nat, z 0 = (k : Int) := ⟨(z 0).toNat, by have := hP.1; omega⟩
      have hk11 : k ≤ 11 := by have := hP.1; omega
      have c3 := hide (fun W => refNames_any k (by have := hP.1; omega) hk11 W)
      rw [← hk0] at c3
      have hbare : Hid (∀ p, p < 7 → p ∉ nmL k → z (p + 1) = 0) := hide (by rw [show k = (z 0).toNat by omega]; exact hP.2)
      have hT := nm_size k hk11
      have hTa := hide (fun i h1 h2 => nm_at k i hk11 h1 h2)
      have hL : Hid (∀ p ∈ nmL k, p < 7) := hide (fun p hp => nmL_lt hp)
      have hL4 : (nmL k).length ≤ 4 := by
        unfold nmL
        split <;> simp
      rw [e2] at c2
      clear e1 e2 hP hk0
      generalize nmL k = L at *
      generalize nmT k = T at *
      generalize opE len S z = R at *
      generalize ofE len S (z 5) = E at *
      generalize szV len S (z 5) = V at *
      go_enter Try.func69, Try.ntmps69
      go_wp2_with fail
      refine (unhide c1 _ (by repeat (first | exact Below.refl _ _ | assumption | refine Below.alloc ?_ (by first | (simp; done) | (simp; omega) | omega) _ | refine Below.setCell ?_ (by first | (simp; done) | (simp; omega) | omega) _ | apply Below.drew | refine Below.trans ?_ (Below.mono (by assumption) (by first | (simp; done) | (simp; omega) | omega))))).mono ?_
      rintro e w2 ⟨rfl, rfl⟩
      go_wp2_with fail
      refine (unhide c2 _).mono ?_
      rintro e w3 ⟨rfl, hb3⟩
      have hz3 := hb3.size
      simp only [World.size_alloc] at hz3
      have hB3 : Below w.heap.size w w3 := by repeat (first | exact Below.refl _ _ | assumption | refine Below.alloc ?_ (by first | (simp; done) | (simp; omega) | omega) _ | refine Below.setCell ?_ (by first | (simp; done) | (simp; omega) | omega) _ | apply Below.drew | refine Below.trans ?_ (Below.mono (by assumption) (by first | (simp; done) | (simp; omega) | omega)))
      have k0 := (hb3.cell (p := ⟨w.heap.size, 0, none⟩) (by simp)).trans (show _ = some (Value.int .i64 (z 0)) by go_simp)
      have k1 := (hb3.cell (p := ⟨w.heap.size, 1, none⟩) (by simp)).trans (show _ = some (Value.int .i64 (z 1)) by go_simp)
      have k2 := (hb3.cell (p := ⟨w.heap.size, 2, none⟩) (by simp)).trans (show _ = some (Value.int .i64 (z 2)) by go_simp)
      have k3 := (hb3.cell (p := ⟨w.heap.size, 3, none⟩) (by simp)).trans (show _ = some (Value.int .i64 (z 3)) by go_simp)
      have k4 := (hb3.cell (p := ⟨w.heap.size, 4, none⟩) (by simp)).trans (show _ = some (Value.int .i64 (z 4)) by go_simp)
      have k5 := (hb3.cell (p := ⟨w.heap.size, 5, none⟩) (by simp)).trans (show _ = some (Value.int .i64 (z 5)) by go_simp)
      have k6 := (hb3.cell (p := ⟨w.heap.size, 6, none⟩) (by simp)).trans (show _ = some (Value.int .i64 (z 6)) by go_simp)
      have k7 := (hb3.cell (p := ⟨w.heap.size, 7, none⟩) (by simp)).trans (show _ = some (Value.int .i64 (z 7)) by go_simp)
      clear hb3
      go_wp2_with fail
      refine (unhide c3 _).mono ?_
      rintro e w4 ⟨rfl, hb4⟩
      have hz4 := hb4.size
      have q1 : w.heap.size < w3.heap.size := by omega
      have q2 : w.heap.size < w4.heap.size := by omega
      have l0 := (hb4.cell (p := ⟨w.heap.size, 0, none⟩) q1).trans k0
      have l1 := (hb4.cell (p := ⟨w.heap.size, 1, none⟩) q1).trans k1
      have l2 := (hb4.cell (p := ⟨w.heap.size, 2, none⟩) q1).trans k2
      have l3 := (hb4.cell (p := ⟨w.heap.size, 3, none⟩) q1).trans k3
      have l4 := (hb4.cell (p := ⟨w.heap.size, 4, none⟩) q1).trans k4
      have l5 := (hb4.cell (p := ⟨w.heap.size, 5, none⟩) q1).trans k5
      have l6 := (hb4.cell (p := ⟨w.heap.size, 6, none⟩) q1).trans k6
      have l7 := (hb4.cell (p := ⟨w.heap.size, 7, none⟩) q1).trans k7
      have HB4 := hide (hB3.trans (hb4.mono (by omega)))
      clear hb4 hB3 k0 k1 k2 k3 k4 k5 k6 k7 c1 c2 c3
      go_wp2
      go_loopw [6] (fun i wr => ∃ j : Nat, j ≤ T.size ∧ i = .int .i64 j ∧ Hid (∀ q (h : q < L.length), q < j → L[q] < 3 → 0 ≤ z (L[q] + 1) ∧ z (L[q] + 1) < 6) ∧ Below w4.heap.size w4 wr) (fun i _ => T.size - (intOf i).toNat)
      case atStart => exact ⟨0, by omega, rfl, hide (fun q _ h => by omega), by repeat (first | exact Below.refl _ _ | assumption | refine Below.alloc ?_ (by first | (simp; done) | (simp; omega) | omega) _ | refine Below.setCell ?_ (by first | (simp; done) | (simp; omega) | omega) _ | apply Below.drew | refine Below.trans ?_ (Below.mono (by assumption) (by first | (simp; done) | (simp; omega) | omega)))⟩
      case round =>
        obtain ⟨j, hj, rfl, HK, hBr⟩ := hrel
        have hzr := hBr.size
        have q3 : w.heap.size < wr.heap.size := by omega
        by_cases hlt : j < T.size
        · have hltL : j < L.length := by omega
          have hcell := unhide hTa j hlt hltL
          have hp7 := unhide hL _ (List.getElem_mem hltL)
          have hnext : Hid ((L[j] < 3 → 0 ≤ z (L[j] + 1) ∧ z (L[j] + 1) < 6) → ∀ q (h : q < L.length), q < j + 1 → L[q] < 3 → 0 ≤ z (L[q] + 1) ∧ z (L[q] + 1) < 6) := hide (fun h q hq h1 h2 => by
            by_cases e : q = j
            · subst e; exact h h2
            · exact unhide HK q hq (by omega) h2)
          have b0 : (0 : Int) ≤ (j : Int) := by omega
          have b1 : (j : Int) < (T.size : Int) := by omega
          have m0 : ∀ v : Later wr, v.val.cell? ⟨w.heap.size, 0, none⟩ = some (.int .i64 (z 0)) := Later.cell q3 ((hBr.cell (p := ⟨w.heap.size, 0, none⟩) q2).trans l0)
          have m1 : ∀ v : Later wr, v.val.cell? ⟨w.heap.size, 1, none⟩ = some (.int .i64 (z 1)) := Later.cell q3 ((hBr.cell (p := ⟨w.heap.size, 1, none⟩) q2).trans l1)
          have m2 : ∀ v : Later wr, v.val.cell? ⟨w.heap.size, 2, none⟩ = some (.int .i64 (z 2)) := Later.cell q3 ((hBr.cell (p := ⟨w.heap.size, 2, none⟩) q2).trans l2)
          have m3 : ∀ v : Later wr, v.val.cell? ⟨w.heap.size, 3, none⟩ = some (.int .i64 (z 3)) := Later.cell q3 ((hBr.cell (p := ⟨w.heap.size, 3, none⟩) q2).trans l3)
          have m4 : ∀ v : Later wr, v.val.cell? ⟨w.heap.size, 4, none⟩ = some (.int .i64 (z 4)) := Later.cell q3 ((hBr.cell (p := ⟨w.heap.size, 4, none⟩) q2).trans l4)
          have m5 : ∀ v : Later wr, v.val.cell? ⟨w.heap.size, 5, none⟩ = some (.int .i64 (z 5)) := Later.cell q3 ((hBr.cell (p := ⟨w.heap.size, 5, none⟩) q2).trans l5)
          have m6 : ∀ v : Later wr, v.val.cell? ⟨w.heap.size, 6, none⟩ = some (.int .i64 (z 6)) := Later.cell q3 ((hBr.cell (p := ⟨w.heap.size, 6, none⟩) q2).trans l6)
          have m7 : ∀ v : Later wr, v.val.cell? ⟨w.heap.size, 7, none⟩ = some (.int .i64 (z 7)) := Later.cell q3 ((hBr.cell (p := ⟨w.heap.size, 7, none⟩) q2).trans l7)
          generalize L[j] = pj at *
          obtain rfl | rfl | rfl | rfl | rfl | rfl | rfl : pj = 0 ∨ pj = 1 ∨ pj = 2 ∨ pj = 3 ∨ pj = 4 ∨ pj = 5 ∨ pj = 6 := by omega
          · have C3 : Hid (∀ v : Later wr, Calls Try.prog 96 #[opV z, .int .u8 65] v.val fun e w'' => e = .returned (.int .i64 (z 1)) ∧ ∃ s' : Later wr, w'' = s'.val) := hide (fun v => later_call (refGet0_any z v.val))
            have hcl : (T[j]'hlt).toNat = 65 := hcell
            clear hcell
            have hs181 : ¬ (0 ≤ z 1 ∧ z 1 < 6) → R = 181 := fun h => unhide r1 (fun hh => h (by have := hh; unfold slotP at this; omega))
            by_cases s1 : z 1 < 0
            · have hres := hs181 (by omega)
              subst hres
              go_wp2
              refine wp_region_later wr (by kernel_rfl) (by kernel_rfl) (by repeat (first | exact Below.refl _ _ | assumption | refine Below.alloc ?_ (by first | (simp; done) | (simp; omega) | omega) _ | refine Below.setCell ?_ (by first | (simp; done) | (simp; omega) | omega) _ | apply Below.drew | refine Below.trans ?_ (Below.mono (by assumption) (by first | (simp; done) | (simp; omega) | omega)))) ?_; (repeat (first | go_big_quiet_skip | (go_big_quiet_want; (first | ((fail); go_big_quiet_on; simp only [Act.put, List.setIfInBounds_toArray, List.set_cons_zero, List.set_cons_succ]) | (go_big_quiet_op; (first | go_big_quiet_on | go_big_quiet_call (((go_at_call 96; exact unhide C3 _))))))))); refine wpQuiet_nil ?_
              intro w5 hw5
              have hB5 : Below w4.heap.size w4 w5 := hBr.trans (hw5.mono (by omega))
              clear m0 m1 m2 m3 m4 m5 m6 m7 hw5
              go_wp2
              go_ret
              exact ⟨rfl, (unhide HB4).trans (hB5.mono (by omega))⟩
            by_cases s1 : 5 < z 1
            · have hres := hs181 (by omega)
              subst hres
              go_wp2
              refine wp_region_later wr (by kernel_rfl) (by kernel_rfl) (by repeat (first | exact Below.refl _ _ | assumption | refine Below.alloc ?_ (by first | (simp; done) | (simp; omega) | omega) _ | refine Below.setCell ?_ (by first | (simp; done) | (simp; omega) | omega) _ | apply Below.drew | refine Below.trans ?_ (Below.mono (by assumption) (by first | (simp; done) | (simp; omega) | omega)))) ?_; (repeat (first | go_big_quiet_skip | (go_big_quiet_want; (first | ((fail); go_big_quiet_on; simp only [Act.put, List.setIfInBounds_toArray, List.set_cons_zero, List.set_cons_succ]) | (go_big_quiet_op; (first | go_big_quiet_on | go_big_quiet_call (((go_at_call 96; exact unhide C3 _))))))))); refine wpQuiet_nil ?_
              intro w5 hw5
              have hB5 : Below w4.heap.size w4 w5 := hBr.trans (hw5.mono (by omega))
              clear m0 m1 m2 m3 m4 m5 m6 m7 hw5
              go_wp2
              go_ret
              exact ⟨rfl, (unhide HB4).trans (hB5.mono (by omega))⟩
            go_wp2
            refine wp_region_later wr (by kernel_rfl) (by kernel_rfl) (by repeat (first | exact Below.refl _ _ | assumption | refine Below.alloc ?_ (by first | (simp; done) | (simp; omega) | omega) _ | refine Below.setCell ?_ (by first | (simp; done) | (simp; omega) | omega) _ | apply Below.drew | refine Below.trans ?_ (Below.mono (by assumption) (by first | (simp; done) | (simp; omega) | omega)))) ?_; (repeat (first | go_big_quiet_skip | (go_big_quiet_want; (first | ((fail); go_big_quiet_on; simp only [Act.put, List.setIfInBounds_toArray, List.set_cons_zero, List.set_cons_succ]) | (go_big_quiet_op; (first | go_big_quiet_on | go_big_quiet_call (((go_at_call 96; exact unhide C3 _))))))))); refine wpQuiet_nil ?_
            intro w5 hw5
            have hB5 : Below w4.heap.size w4 w5 := hBr.trans (hw5.mono (by omega))
            clear m0 m1 m2 m3 m4 m5 m6 m7 hw5
            go_wp2
            go_roundw
            case measure => simp [intOf]; omega
            case rel => exact ⟨j + 1, by omega, by go_num, hide (unhide hnext (fun _ => (show 0 ≤ z 1 ∧ z 1 < 6 from ⟨by omega, by omega⟩))), hB5⟩
          · have C3 : Hid (∀ v : Later wr, Calls Try.prog 96 #[opV z, .int .u8 66] v.val fun e w'' => e = .returned (.int .i64 (z 2)) ∧ ∃ s' : Later wr, w'' = s'.val) := hide (fun v => later_call (refGet1_any z v.val))
            have hcl : (T[j]'hlt).toNat = 66 := hcell
            clear hcell
            have hs181 : ¬ (0 ≤ z 2 ∧ z 2 < 6) → R = 181 := fun h => unhide r1 (fun hh => h (by have := hh; unfold slotP at this; omega))
            by_cases s1 : z 2 < 0
            · have hres := hs181 (by omega)
              subst hres
              go_wp2
              refine wp_region_later wr (by kernel_rfl) (by kernel_rfl) (by repeat (first | exact Below.refl _ _ | assumption | refine Below.alloc ?_ (by first | (simp; done) | (simp; omega) | omega) _ | refine Below.setCell ?_ (by first | (simp; done) | (simp; omega) | omega) _ | apply Below.drew | refine Below.trans ?_ (Below.mono (by assumption) (by first | (simp; done) | (simp; omega) | omega)))) ?_; (repeat (first | go_big_quiet_skip | (go_big_quiet_want; (first | ((fail); go_big_quiet_on; simp only [Act.put, List.setIfInBounds_toArray, List.set_cons_zero, List.set_cons_succ]) | (go_big_quiet_op; (first | go_big_quiet_on | go_big_quiet_call (((go_at_call 96; exact unhide C3 _))))))))); refine wpQuiet_nil ?_
              intro w5 hw5
              have hB5 : Below w4.heap.size w4 w5 := hBr.trans (hw5.mono (by omega))
              clear m0 m1 m2 m3 m4 m5 m6 m7 hw5
              go_wp2
              go_ret
              exact ⟨rfl, (unhide HB4).trans (hB5.mono (by omega))⟩
            by_cases s1 : 5 < z 2
            · have hres := hs181 (by omega)
              subst hres
              go_wp2
              refine wp_region_later wr (by kernel_rfl) (by kernel_rfl) (by repeat (first | exact Below.refl _ _ | assumption | refine Below.alloc ?_ (by first | (simp; done) | (simp; omega) | omega) _ | refine Below.setCell ?_ (by first | (simp; done) | (simp; omega) | omega) _ | apply Below.drew | refine Below.trans ?_ (Below.mono (by assumption) (by first | (simp; done) | (simp; omega) | omega)))) ?_; (repeat (first | go_big_quiet_skip | (go_big_quiet_want; (first | ((fail); go_big_quiet_on; simp only [Act.put, List.setIfInBounds_toArray, List.set_cons_zero, List.set_cons_succ]) | (go_big_quiet_op; (first | go_big_quiet_on | go_big_quiet_call (((go_at_call 96; exact unhide C3 _))))))))); refine wpQuiet_nil ?_
              intro w5 hw5
              have hB5 : Below w4.heap.size w4 w5 := hBr.trans (hw5.mono (by omega))
              clear m0 m1 m2 m3 m4 m5 m6 m7 hw5
              go_wp2
              go_ret
              exact ⟨rfl, (unhide HB4).trans (hB5.mono (by omega))⟩
            go_wp2
            refine wp_region_later wr (by kernel_rfl) (by kernel_rfl) (by repeat (first | exact Below.refl _ _ | assumption | refine Below.alloc ?_ (by first | (simp; done) | (simp; omega) | omega) _ | refine Below.setCell ?_ (by first | (simp; done) | (simp; omega) | omega) _ | apply Below.drew | refine Below.trans ?_ (Below.mono (by assumption) (by first | (simp; done) | (simp; omega) | omega)))) ?_; (repeat (first | go_big_quiet_skip | (go_big_quiet_want; (first | ((fail); go_big_quiet_on; simp only [Act.put, List.setIfInBounds_toArray, List.set_cons_zero, List.set_cons_succ]) | (go_big_quiet_op; (first | go_big_quiet_on | go_big_quiet_call (((go_at_call 96; exact unhide C3 _))))))))); refine wpQuiet_nil ?_
            intro w5 hw5
            have hB5 : Below w4.heap.size w4 w5 := hBr.trans (hw5.mono (by omega))
            clear m0 m1 m2 m3 m4 m5 m6 m7 hw5
            go_wp2
            go_roundw
            case measure => simp [intOf]; omega
            case rel => exact ⟨j + 1, by omega, by go_num, hide (unhide hnext (fun _ => (show 0 ≤ z 2 ∧ z 2 < 6 from ⟨by omega, by omega⟩))), hB5⟩
          · have C3 : Hid (∀ v : Later wr, Calls Try.prog 96 #[opV z, .int .u8 67] v.val fun e w'' => e = .returned (.int .i64 (z 3)) ∧ ∃ s' : Later wr, w'' = s'.val) := hide (fun v => later_call (refGet2_any z v.val))
            have hcl : (T[j]'hlt).toNat = 67 := hcell
            clear hcell
            have hs181 : ¬ (0 ≤ z 3 ∧ z 3 < 6) → R = 181 := fun h => unhide r1 (fun hh => h (by have := hh; unfold slotP at this; omega))
            by_cases s1 : z 3 < 0
            · have hres := hs181 (by omega)
              subst hres
              go_wp2
              refine wp_region_later wr (by kernel_rfl) (by kernel_rfl) (by repeat (first | exact Below.refl _ _ | assumption | refine Below.alloc ?_ (by first | (simp; done) | (simp; omega) | omega) _ | refine Below.setCell ?_ (by first | (simp; done) | (simp; omega) | omega) _ | apply Below.drew | refine Below.trans ?_ (Below.mono (by assumption) (by first | (simp; done) | (simp; omega) | omega)))) ?_; (repeat (first | go_big_quiet_skip | (go_big_quiet_want; (first | ((fail); go_big_quiet_on; simp only [Act.put, List.setIfInBounds_toArray, List.set_cons_zero, List.set_cons_succ]) | (go_big_quiet_op; (first | go_big_quiet_on | go_big_quiet_call (((go_at_call 96; exact unhide C3 _))))))))); refine wpQuiet_nil ?_
              intro w5 hw5
              have hB5 : Below w4.heap.size w4 w5 := hBr.trans (hw5.mono (by omega))
              clear m0 m1 m2 m3 m4 m5 m6 m7 hw5
              go_wp2
              go_ret
              exact ⟨rfl, (unhide HB4).trans (hB5.mono (by omega))⟩
            by_cases s1 : 5 < z 3
            · have hres := hs181 (by omega)
              subst hres
              go_wp2
              refine wp_region_later wr (by kernel_rfl) (by kernel_rfl) (by repeat (first | exact Below.refl _ _ | assumption | refine Below.alloc ?_ (by first | (simp; done) | (simp; omega) | omega) _ | refine Below.setCell ?_ (by first | (simp; done) | (simp; omega) | omega) _ | apply Below.drew | refine Below.trans ?_ (Below.mono (by assumption) (by first | (simp; done) | (simp; omega) | omega)))) ?_; (repeat (first | go_big_quiet_skip | (go_big_quiet_want; (first | ((fail); go_big_quiet_on; simp only [Act.put, List.setIfInBounds_toArray, List.set_cons_zero, List.set_cons_succ]) | (go_big_quiet_op; (first | go_big_quiet_on | go_big_quiet_call (((go_at_call 96; exact unhide C3 _))))))))); refine wpQuiet_nil ?_
              intro w5 hw5
              have hB5 : Below w4.heap.size w4 w5 := hBr.trans (hw5.mono (by omega))
              clear m0 m1 m2 m3 m4 m5 m6 m7 hw5
              go_wp2
              go_ret
              exact ⟨rfl, (unhide HB4).trans (hB5.mono (by omega))⟩
            go_wp2
            refine wp_region_later wr (by kernel_rfl) (by kernel_rfl) (by repeat (first | exact Below.refl _ _ | assumption | refine Below.alloc ?_ (by first | (simp; done) | (simp; omega) | omega) _ | refine Below.setCell ?_ (by first | (simp; done) | (simp; omega) | omega) _ | apply Below.drew | refine Below.trans ?_ (Below.mono (by assumption) (by first | (simp; done) | (simp; omega) | omega)))) ?_; (repeat (first | go_big_quiet_skip | (go_big_quiet_want; (first | ((fail); go_big_quiet_on; simp only [Act.put, List.setIfInBounds_toArray, List.set_cons_zero, List.set_cons_succ]) | (go_big_quiet_op; (first | go_big_quiet_on | go_big_quiet_call (((go_at_call 96; exact unhide C3 _))))))))); refine wpQuiet_nil ?_
            intro w5 hw5
            have hB5 : Below w4.heap.size w4 w5 := hBr.trans (hw5.mono (by omega))
            clear m0 m1 m2 m3 m4 m5 m6 m7 hw5
            go_wp2
            go_roundw
            case measure => simp [intOf]; omega
            case rel => exact ⟨j + 1, by omega, by go_num, hide (unhide hnext (fun _ => (show 0 ≤ z 3 ∧ z 3 < 6 from ⟨by omega, by omega⟩))), hB5⟩
          · have C3 : Hid (∀ v : Later wr, Calls Try.prog 96 #[opV z, .int .u8 102] v.val fun e w'' => e = .returned (.int .i64 (z 4)) ∧ ∃ s' : Later wr, w'' = s'.val) := hide (fun v => later_call (refGet3_any z v.val))
            have hcl : (T[j]'hlt).toNat = 102 := hcell
            clear hcell
            go_wp2
            refine wp_region_later wr (by kernel_rfl) (by kernel_rfl) (by repeat (first | exact Below.refl _ _ | assumption | refine Below.alloc ?_ (by first | (simp; done) | (simp; omega) | omega) _ | refine Below.setCell ?_ (by first | (simp; done) | (simp; omega) | omega) _ | apply Below.drew | refine Below.trans ?_ (Below.mono (by assumption) (by first | (simp; done) | (simp; omega) | omega)))) ?_; (repeat (first | go_big_quiet_skip | (go_big_quiet_want; (first | ((fail); go_big_quiet_on; simp only [Act.put, List.setIfInBounds_toArray, List.set_cons_zero, List.set_cons_succ]) | (go_big_quiet_op; (first | go_big_quiet_on | go_big_quiet_call (((go_at_call 96; exact unhide C3 _))))))))); refine wpQuiet_nil ?_
            intro w5 hw5
            have hB5 : Below w4.heap.size w4 w5 := hBr.trans (hw5.mono (by omega))
            clear m0 m1 m2 m3 m4 m5 m6 m7 hw5
            go_wp2
            go_roundw
            case measure => simp [intOf]; omega
            case rel => exact ⟨j + 1, by omega, by go_num, hide (unhide hnext (fun _ => by omega)), hB5⟩
          · have C3 : Hid (∀ v : Later wr, Calls Try.prog 96 #[opV z, .int .u8 115] v.val fun e w'' => e = .returned (.int .i64 (z 5)) ∧ ∃ s' : Later wr, w'' = s'.val) := hide (fun v => later_call (refGet4_any z v.val))
            have hcl : (T[j]'hlt).toNat = 115 := hcell
            clear hcell
            go_wp2
            refine wp_region_later wr (by kernel_rfl) (by kernel_rfl) (by repeat (first | exact Below.refl _ _ | assumption | refine Below.alloc ?_ (by first | (simp; done) | (simp; omega) | omega) _ | refine Below.setCell ?_ (by first | (simp; done) | (simp; omega) | omega) _ | apply Below.drew | refine Below.trans ?_ (Below.mono (by assumption) (by first | (simp; done) | (simp; omega) | omega)))) ?_; (repeat (first | go_big_quiet_skip | (go_big_quiet_want; (first | ((fail); go_big_quiet_on; simp only [Act.put, List.setIfInBounds_toArray, List.set_cons_zero, List.set_cons_succ]) | (go_big_quiet_op; (first | go_big_quiet_on | go_big_quiet_call (((go_at_call 96; exact unhide C3 _))))))))); refine wpQuiet_nil ?_
            intro w5 hw5
            have hB5 : Below w4.heap.size w4 w5 := hBr.trans (hw5.mono (by omega))
            clear m0 m1 m2 m3 m4 m5 m6 m7 hw5
            go_wp2
            go_roundw
            case measure => simp [intOf]; omega
            case rel => exact ⟨j + 1, by omega, by go_num, hide (unhide hnext (fun _ => by omega)), hB5⟩
          · have C3 : Hid (∀ v : Later wr, Calls Try.prog 96 #[opV z, .int .u8 88] v.val fun e w'' => e = .returned (.int .i64 (z 6)) ∧ ∃ s' : Later wr, w'' = s'.val) := hide (fun v => later_call (refGet5_any z v.val))
            have hcl : (T[j]'hlt).toNat = 88 := hcell
            clear hcell
            go_wp2
            refine wp_region_later wr (by kernel_rfl) (by kernel_rfl) (by repeat (first | exact Below.refl _ _ | assumption | refine Below.alloc ?_ (by first | (simp; done) | (simp; omega) | omega) _ | refine Below.setCell ?_ (by first | (simp; done) | (simp; omega) | omega) _ | apply Below.drew | refine Below.trans ?_ (Below.mono (by assumption) (by first | (simp; done) | (simp; omega) | omega)))) ?_; (repeat (first | go_big_quiet_skip | (go_big_quiet_want; (first | ((fail); go_big_quiet_on; simp only [Act.put, List.setIfInBounds_toArray, List.set_cons_zero, List.set_cons_succ]) | (go_big_quiet_op; (first | go_big_quiet_on | go_big_quiet_call (((go_at_call 96; exact unhide C3 _))))))))); refine wpQuiet_nil ?_
            intro w5 hw5
            have hB5 : Below w4.heap.size w4 w5 := hBr.trans (hw5.mono (by omega))
            clear m0 m1 m2 m3 m4 m5 m6 m7 hw5
            go_wp2
            go_roundw
            case measure => simp [intOf]; omega
            case rel => exact ⟨j + 1, by omega, by go_num, hide (unhide hnext (fun _ => by omega)), hB5⟩
          · have C3 : Hid (∀ v : Later wr, Calls Try.prog 96 #[opV z, .int .u8 89] v.val fun e w'' => e = .returned (.int .i64 (z 7)) ∧ ∃ s' : Later wr, w'' = s'.val) := hide (fun v => later_call (refGet6_any z v.val))
            have hcl : (T[j]'hlt).toNat = 89 := hcell
            clear hcell
            go_wp2
            refine wp_region_later wr (by kernel_rfl) (by kernel_rfl) (by repeat (first | exact Below.refl _ _ | assumption | refine Below.alloc ?_ (by first | (simp; done) | (simp; omega) | omega) _ | refine Below.setCell ?_ (by first | (simp; done) | (simp; omega) | omega) _ | apply Below.drew | refine Below.trans ?_ (Below.mono (by assumption) (by first | (simp; done) | (simp; omega) | omega)))) ?_; (repeat (first | go_big_quiet_skip | (go_big_quiet_want; (first | ((fail); go_big_quiet_on; simp only [Act.put, List.setIfInBounds_toArray, List.set_cons_zero, List.set_cons_succ]) | (go_big_quiet_op; (first | go_big_quiet_on | go_big_quiet_call (((go_at_call 96; exact unhide C3 _))))))))); refine wpQuiet_nil ?_
            intro w5 hw5
            have hB5 : Below w4.heap.size w4 w5 := hBr.trans (hw5.mono (by omega))
            clear m0 m1 m2 m3 m4 m5 m6 m7 hw5
            go_wp2
            go_roundw
            case measure => simp [intOf]; omega
            case rel => exact ⟨j + 1, by omega, by go_num, hide (unhide hnext (fun _ => by omega)), hB5⟩
        · have hall : Hid (∀ p, p < 3 → 0 ≤ z (p + 1) ∧ z (p + 1) < 6) := hide (fun p hp => by
            by_cases hm : p ∈ L
            · obtain ⟨q, hq, rfl⟩ := List.mem_iff_getElem.1 hm
              exact unhide HK q hq (by omega) hp
            · have := unhide hbare p (by omega) hm
              omega)
          have hslot : slotP z := ⟨unhide hall 0 (by omega), unhide hall 1 (by omega), unhide hall 2 (by omega)⟩
          have HB := hide ((unhide HB4).trans (hBr.mono (by omega)))
          have m0 := (hBr.cell (p := ⟨w.heap.size, 0, none⟩) q2).trans l0
          have m1 := (hBr.cell (p := ⟨w.heap.size, 1, none⟩) q2).trans l1
          have m2 := (hBr.cell (p := ⟨w.heap.size, 2, none⟩) q2).trans l2
          have m3 := (hBr.cell (p := ⟨w.heap.size, 3, none⟩) q2).trans l3
          have m4 := (hBr.cell (p := ⟨w.heap.size, 4, none⟩) q2).trans l4
          have m5 := (hBr.cell (p := ⟨w.heap.size, 5, none⟩) q2).trans l5
          have m6 := (hBr.cell (p := ⟨w.heap.size, 6, none⟩) q2).trans l6
          have m7 := (hBr.cell (p := ⟨w.heap.size, 7, none⟩) q2).trans l7
          by_cases s1 : z 0 = 1
          · have hres := unhide r2 hslot s1
            subst hres
            go_wp2_with fail
            refine (unhide c4 _ (unhide HB)).mono ?_
            rintro e w5 ⟨rfl, rfl⟩
            go_wp2
            go_ret
            exact ⟨rfl, unhide HB⟩
          have s1b : (z 0 == 1) = false := by simpa using s1
          by_cases s2 : z 6 < -576460752303423488
          · have hres := unhide r3 hslot s1 (fun h => by unfold valP at h; omega)
            subst hres
            go_wp2
            go_ret
            exact ⟨rfl, unhide HB⟩
          by_cases s3 : 576460752303423487 < z 6
          · have hres := unhide r3 hslot s1 (fun h => by unfold valP at h; omega)
            subst hres
            go_wp2
            go_ret
            exact ⟨rfl, unhide HB⟩
          by_cases s4 : z 7 < -576460752303423488
          · have hres := unhide r3 hslot s1 (fun h => by unfold valP at h; omega)
            subst hres
            go_wp2
            go_ret
            exact ⟨rfl, unhide HB⟩
          by_cases s5 : 576460752303423487 < z 7
          · have hres := unhide r3 hslot s1 (fun h => by unfold valP at h; omega)
            subst hres
            go_wp2
            go_ret
            exact ⟨rfl, unhide HB⟩
          have hres := unhide r4 hslot s1 (by unfold valP; omega)
          subst hres
          go_wp2
          go_ret
          exact ⟨rfl, unhide HB⟩

/-- Of which kind a kind's field is. -/
def fldK (k : Int) : Int := if k < 2 ∨ 7 < k then -1 else if k < 5 then 0 else 1
theorem refField_any (z : Nat → Int) (w : World) : Calls Try.prog 72 #[opV z] w fun e w' => e = .returned (.int .i64 (fldK (z 0))) ∧ Below w.heap.size w w' := by
  by_cases h1 : z 0 < 2
  · rw [show fldK (z 0) = -1 by unfold fldK; rw [if_pos (.inl h1)]]
    go_enter Try.func72, Try.ntmps72
    go_wp2
    go_ret
    exact ⟨rfl, by repeat (first | exact Below.refl _ _ | assumption | refine Below.alloc ?_ (by first | (simp; done) | (simp; omega) | omega) _ | refine Below.setCell ?_ (by first | (simp; done) | (simp; omega) | omega) _ | apply Below.drew | refine Below.trans ?_ (Below.mono (by assumption) (by first | (simp; done) | (simp; omega) | omega)))⟩
  by_cases h2 : 7 < z 0
  · rw [show fldK (z 0) = -1 by unfold fldK; rw [if_pos (.inr h2)]]
    go_enter Try.func72, Try.ntmps72
    go_wp2
    go_ret
    exact ⟨rfl, by repeat (first | exact Below.refl _ _ | assumption | refine Below.alloc ?_ (by first | (simp; done) | (simp; omega) | omega) _ | refine Below.setCell ?_ (by first | (simp; done) | (simp; omega) | omega) _ | apply Below.drew | refine Below.trans ?_ (Below.mono (by assumption) (by first | (simp; done) | (simp; omega) | omega)))⟩
  have hq : Hid ((z 0 - 2) / 3 = fldK (z 0)) := hide (by
    unfold fldK
    rw [if_neg (by omega)]
    split <;> omega)
  go_enter Try.func72, Try.ntmps72
  go_wp2
  go_ret
  exact ⟨ret_int (unhide hq), by repeat (first | exact Below.refl _ _ | assumption | refine Below.alloc ?_ (by first | (simp; done) | (simp; omega) | omega) _ | refine Below.setCell ?_ (by first | (simp; done) | (simp; omega) | omega) _ | apply Below.drew | refine Below.trans ?_ (Below.mono (by assumption) (by first | (simp; done) | (simp; omega) | omega)))⟩
end Go.Proofs.Ytbkaopeajjechaa
