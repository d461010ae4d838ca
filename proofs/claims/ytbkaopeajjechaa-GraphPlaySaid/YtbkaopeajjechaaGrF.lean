/- The walks of package op, further: Check. -/
import Derived.Test.YtbkaopeajjechaaGrE
import Derived.Laws.EntriesVeiled
namespace Go.Proofs.Ytbkaopeajjechaa
set_option linter.unusedVariables false
set_option linter.unusedSimpArgs false
open Go.RowKit Go.Maps

def slotP (z : Nat → Int) : Prop := (0 ≤ z 1 ∧ z 1 < 6) ∧ (0 ≤ z 2 ∧ z 2 < 6) ∧ (0 ≤ z 3 ∧ z 3 < 6)
def valP (z : Nat → Int) : Prop := (-576460752303423488 ≤ z 6 ∧ z 6 ≤ 576460752303423487) ∧ (-576460752303423488 ≤ z 7 ∧ z 7 ≤ 576460752303423487)
open Classical in
/-- What Check tells. -/
noncomputable def opE (len : Nat) (S : Nat → ByteArray) (z : Nat → Int) : Int :=
  if okTB len S = true then (if bareB z = true then (if slotP z then (if z 0 = 1 then ofE len S (z 5) else if valP z then 0 else 182) else 181) else 180) else 2

theorem opE_2 {len : Nat} {S : Nat → ByteArray} {z : Nat → Int} (h1 : okTB len S = false) : opE len S z = 2 := by unfold opE; rw [h1, if_neg (by simp)]
theorem opE_180 {len : Nat} {S : Nat → ByteArray} {z : Nat → Int} (h1 : okTB len S = true) (h2 : bareB z = false) : opE len S z = 180 := by unfold opE; rw [h1, if_pos rfl, h2, if_neg (by simp)]
theorem opE_181 {len : Nat} {S : Nat → ByteArray} {z : Nat → Int} (h1 : okTB len S = true) (h2 : bareB z = true) (h3 : ¬ slotP z) : opE len S z = 181 := by unfold opE; rw [h1, if_pos rfl, h2, if_pos rfl, if_neg h3]
theorem opE_of {len : Nat} {S : Nat → ByteArray} {z : Nat → Int} (h1 : okTB len S = true) (h2 : bareB z = true) (h3 : slotP z) (h4 : z 0 = 1) : opE len S z = ofE len S (z 5) := by unfold opE; rw [h1, if_pos rfl, h2, if_pos rfl, if_pos h3, if_pos h4]
theorem opE_182 {len : Nat} {S : Nat → ByteArray} {z : Nat → Int} (h1 : okTB len S = true) (h2 : bareB z = true) (h3 : slotP z) (h4 : ¬ z 0 = 1) (h5 : ¬ valP z) : opE len S z = 182 := by unfold opE; rw [h1, if_pos rfl, h2, if_pos rfl, if_pos h3, if_neg h4, if_neg h5]
theorem opE_0 {len : Nat} {S : Nat → ByteArray} {z : Nat → Int} (h1 : okTB len S = true) (h2 : bareB z = true) (h3 : slotP z) (h4 : ¬ z 0 = 1) (h5 : valP z) : opE len S z = 0 := by unfold opE; rw [h1, if_pos rfl, h2, if_pos rfl, if_pos h3, if_neg h4, if_pos h5]

set_option maxRecDepth 100000 in
set_option maxHeartbeats 4000000 in
theorem opChk_any (A : Option Addr) (len cap : Nat) (S : Nat → ByteArray) (hlen : len ≤ 9223372036854775807) (hS : ∀ i, i < len → (S i).size ≤ 9223372036854775807) (z : Nat → Int) (w : World) (H : ShOk w A len S) :
    Calls Try.prog 33 #[.slice A len cap, opV z] w fun e w' => e = .returned (.int .i64 (opE len S z)) ∧ Below w.heap.size w w' := by
  have c1 := hide (fun W (hW : Below w.heap.size w W) => shapeChk_any A len cap S hlen hS W (H.keep hW))
  have c2 := hide (fun W => bare_any z W)
  have c3 := hide (fun W => parts_any W)
  have c4 := hide (fun W (hW : Below w.heap.size w W) => shSize_any A len cap S hlen hS (z 5) W (H.keep hW))
  clear H hS
  cases e1 : okTB len S with
  | false =>
    have hr := opE_2 (z := z) e1
    rw [e1, if_neg (by simp)] at c1
    rw [hr]
    clear e1 hr c2 c3 c4
    go_enter Try.func33, Try.ntmps33
    go_wp2
    refine wp_scope_fwd 0 rfl ?_
    go_wp2_with fail
    refine (unhide c1 _ (by repeat (first | exact Below.refl _ _ | assumption | refine Below.alloc ?_ (by first | (simp; done) | (simp; omega) | omega) _ | refine Below.setCell ?_ (by first | (simp; done) | (simp; omega) | omega) _ | apply Below.drew | refine Below.trans ?_ (Below.mono (by assumption) (by first | (simp; done) | (simp; omega) | omega))))).mono ?_
    rintro e w2 ⟨rfl, hb2⟩
    go_wp2
    (try (go_step3; refine fwd_goto ?_; go_wp2))
    (first | rw [fwd_ret] | rw [Exit.noGoto_ret] | skip)
    go_ret
    exact ⟨rfl, by repeat (first | exact Below.refl _ _ | assumption | refine Below.alloc ?_ (by first | (simp; done) | (simp; omega) | omega) _ | refine Below.setCell ?_ (by first | (simp; done) | (simp; omega) | omega) _ | apply Below.drew | refine Below.trans ?_ (Below.mono (by assumption) (by first | (simp; done) | (simp; omega) | omega)))⟩
  | true =>
    rw [e1, if_pos rfl] at c1
    cases e2 : bareB z with
    | false =>
      have hr := opE_180 e1 e2
      rw [e2] at c2
      rw [hr]
      clear e1 e2 hr c3 c4
      go_enter Try.func33, Try.ntmps33
      go_wp2
      refine wp_scope_fwd 0 rfl ?_
      go_wp2_with fail
      refine (unhide c1 _ (by repeat (first | exact Below.refl _ _ | assumption | refine Below.alloc ?_ (by first | (simp; done) | (simp; omega) | omega) _ | refine Below.setCell ?_ (by first | (simp; done) | (simp; omega) | omega) _ | apply Below.drew | refine Below.trans ?_ (Below.mono (by assumption) (by first | (simp; done) | (simp; omega) | omega))))).mono ?_
      rintro e w2 ⟨rfl, hb2⟩
      have hB2 : Below w.heap.size w w2 := by repeat (first | exact Below.refl _ _ | assumption | refine Below.alloc ?_ (by first | (simp; done) | (simp; omega) | omega) _ | refine Below.setCell ?_ (by first | (simp; done) | (simp; omega) | omega) _ | apply Below.drew | refine Below.trans ?_ (Below.mono (by assumption) (by first | (simp; done) | (simp; omega) | omega)))
      have k0 := (hb2.cell (p := ⟨w.heap.size, 0, none⟩) (by simp)).trans (show _ = some (Value.int .i64 (z 0)) by go_simp)
      have k1 := (hb2.cell (p := ⟨w.heap.size, 1, none⟩) (by simp)).trans (show _ = some (Value.int .i64 (z 1)) by go_simp)
      have k2 := (hb2.cell (p := ⟨w.heap.size, 2, none⟩) (by simp)).trans (show _ = some (Value.int .i64 (z 2)) by go_simp)
      have k3 := (hb2.cell (p := ⟨w.heap.size, 3, none⟩) (by simp)).trans (show _ = some (Value.int .i64 (z 3)) by go_simp)
      have k4 := (hb2.cell (p := ⟨w.heap.size, 4, none⟩) (by simp)).trans (show _ = some (Value.int .i64 (z 4)) by go_simp)
      have k5 := (hb2.cell (p := ⟨w.heap.size, 5, none⟩) (by simp)).trans (show _ = some (Value.int .i64 (z 5)) by go_simp)
      have k6 := (hb2.cell (p := ⟨w.heap.size, 6, none⟩) (by simp)).trans (show _ = some (Value.int .i64 (z 6)) by go_simp)
      have k7 := (hb2.cell (p := ⟨w.heap.size, 7, none⟩) (by simp)).trans (show _ = some (Value.int .i64 (z 7)) by go_simp)
      clear hb2
      go_wp2_with fail
      refine (unhide c2 _).mono ?_
      rintro e w3 ⟨rfl, hb3⟩
      have hz2 := hB2.size
      go_wp2
      (try (go_step3; refine fwd_goto ?_; go_wp2))
      (first | rw [fwd_ret] | rw [Exit.noGoto_ret] | skip)
      go_ret
      exact ⟨rfl, by repeat (first | exact Below.refl _ _ | assumption | refine Below.alloc ?_ (by first | (simp; done) | (simp; omega) | omega) _ | refine Below.setCell ?_ (by first | (simp; done) | (simp; omega) | omega) _ | apply Below.drew | refine Below.trans ?_ (Below.mono (by assumption) (by first | (simp; done) | (simp; omega) | omega)))⟩
    | true =>
      have r1 : Hid (¬ slotP z → opE len S z = 181) := hide (opE_181 e1 e2)
      have r2 : Hid (slotP z → z 0 = 1 → opE len S z = ofE len S (z 5)) := hide (opE_of e1 e2)
      have r3 : Hid (slotP z → ¬ z 0 = 1 → ¬ valP z → opE len S z = 182) := hide (opE_182 e1 e2)
      have r4 : Hid (slotP z → ¬ z 0 = 1 → valP z → opE len S z = 0) := hide (opE_0 e1 e2)
      rw [e2] at c2
      generalize opE len S z = R at *
      generalize ofE len S (z 5) = E at *
      generalize szV len S (z 5) = V at *
      clear e1 e2
      go_enter Try.func33, Try.ntmps33
      go_wp2
      refine wp_scope_fwd 0 rfl ?_
      go_wp2_with fail
      refine (unhide c1 _ (by repeat (first | exact Below.refl _ _ | assumption | refine Below.alloc ?_ (by first | (simp; done) | (simp; omega) | omega) _ | refine Below.setCell ?_ (by first | (simp; done) | (simp; omega) | omega) _ | apply Below.drew | refine Below.trans ?_ (Below.mono (by assumption) (by first | (simp; done) | (simp; omega) | omega))))).mono ?_
      rintro e w2 ⟨rfl, hb2⟩
      have hB2 : Below w.heap.size w w2 := by repeat (first | exact Below.refl _ _ | assumption | refine Below.alloc ?_ (by first | (simp; done) | (simp; omega) | omega) _ | refine Below.setCell ?_ (by first | (simp; done) | (simp; omega) | omega) _ | apply Below.drew | refine Below.trans ?_ (Below.mono (by assumption) (by first | (simp; done) | (simp; omega) | omega)))
      have hz2 := hb2.size
      simp only [World.size_alloc] at hz2
      have k0 := (hb2.cell (p := ⟨w.heap.size, 0, none⟩) (by simp)).trans (show _ = some (Value.int .i64 (z 0)) by go_simp)
      have k1 := (hb2.cell (p := ⟨w.heap.size, 1, none⟩) (by simp)).trans (show _ = some (Value.int .i64 (z 1)) by go_simp)
      have k2 := (hb2.cell (p := ⟨w.heap.size, 2, none⟩) (by simp)).trans (show _ = some (Value.int .i64 (z 2)) by go_simp)
      have k3 := (hb2.cell (p := ⟨w.heap.size, 3, none⟩) (by simp)).trans (show _ = some (Value.int .i64 (z 3)) by go_simp)
      have k4 := (hb2.cell (p := ⟨w.heap.size, 4, none⟩) (by simp)).trans (show _ = some (Value.int .i64 (z 4)) by go_simp)
      have k5 := (hb2.cell (p := ⟨w.heap.size, 5, none⟩) (by simp)).trans (show _ = some (Value.int .i64 (z 5)) by go_simp)
      have k6 := (hb2.cell (p := ⟨w.heap.size, 6, none⟩) (by simp)).trans (show _ = some (Value.int .i64 (z 6)) by go_simp)
      have k7 := (hb2.cell (p := ⟨w.heap.size, 7, none⟩) (by simp)).trans (show _ = some (Value.int .i64 (z 7)) by go_simp)
      clear hb2
      go_wp2_with fail
      refine (unhide c2 _).mono ?_
      rintro e w3 ⟨rfl, hb3⟩
      have hz3 := hb3.size
      go_wp2_with fail
      refine (unhide c3 _).mono ?_
      rintro e w4 ⟨rfl, hb4⟩
      have hz4 := hb4.size
      have hB4 : Below w.heap.size w w4 := by repeat (first | exact Below.refl _ _ | assumption | refine Below.alloc ?_ (by first | (simp; done) | (simp; omega) | omega) _ | refine Below.setCell ?_ (by first | (simp; done) | (simp; omega) | omega) _ | apply Below.drew | refine Below.trans ?_ (Below.mono (by assumption) (by first | (simp; done) | (simp; omega) | omega)))
      have hb24 : Below w2.heap.size w2 w4 := hb3.trans (hb4.mono hz3)
      have q1 : w.heap.size < w2.heap.size := by omega
      have l0 := (hb24.cell (p := ⟨w.heap.size, 0, none⟩) q1).trans k0
      have l1 := (hb24.cell (p := ⟨w.heap.size, 1, none⟩) q1).trans k1
      have l2 := (hb24.cell (p := ⟨w.heap.size, 2, none⟩) q1).trans k2
      have l3 := (hb24.cell (p := ⟨w.heap.size, 3, none⟩) q1).trans k3
      have l4 := (hb24.cell (p := ⟨w.heap.size, 4, none⟩) q1).trans k4
      have l5 := (hb24.cell (p := ⟨w.heap.size, 5, none⟩) q1).trans k5
      have l6 := (hb24.cell (p := ⟨w.heap.size, 6, none⟩) q1).trans k6
      have l7 := (hb24.cell (p := ⟨w.heap.size, 7, none⟩) q1).trans k7
      have HB4 := hide hB4
      have q2 : w.heap.size < w4.heap.size := by omega
      clear hb24 hb3 hb4 hB2 hB4 k0 k1 k2 k3 k4 k5 k6 k7 c1 c2 c3
      go_wp2_with fail
      go_loopw [18] (fun i wr => ∃ j : Nat, j ≤ 7 ∧ i = .int .i64 j ∧ Hid (∀ p, p < j → p < 3 → 0 ≤ z (p + 1) ∧ z (p + 1) < 6) ∧ Below w4.heap.size w4 wr) (fun i _ => 7 - (intOf i).toNat)
      case atStart => exact ⟨0, by omega, rfl, hide (fun p h => by omega), by repeat (first | exact Below.refl _ _ | assumption | refine Below.alloc ?_ (by first | (simp; done) | (simp; omega) | omega) _ | refine Below.setCell ?_ (by first | (simp; done) | (simp; omega) | omega) _ | apply Below.drew | refine Below.trans ?_ (Below.mono (by assumption) (by first | (simp; done) | (simp; omega) | omega)))⟩
      case round =>
        obtain ⟨j, hj, rfl, HK, hBr⟩ := hrel
        have hzr := hBr.size
        have q3 : w.heap.size < wr.heap.size := by omega
        have m0 := (hBr.cell (p := ⟨w.heap.size, 0, none⟩) q2).trans l0
        have m1 := (hBr.cell (p := ⟨w.heap.size, 1, none⟩) q2).trans l1
        have m2 := (hBr.cell (p := ⟨w.heap.size, 2, none⟩) q2).trans l2
        have m3 := (hBr.cell (p := ⟨w.heap.size, 3, none⟩) q2).trans l3
        have m4 := (hBr.cell (p := ⟨w.heap.size, 4, none⟩) q2).trans l4
        have m5 := (hBr.cell (p := ⟨w.heap.size, 5, none⟩) q2).trans l5
        have m6 := (hBr.cell (p := ⟨w.heap.size, 6, none⟩) q2).trans l6
        have m7 := (hBr.cell (p := ⟨w.heap.size, 7, none⟩) q2).trans l7
        by_cases hlt : j < 7
        · obtain rfl | rfl | rfl | rfl | rfl | rfl | rfl : j = 0 ∨ j = 1 ∨ j = 2 ∨ j = 3 ∨ j = 4 ∨ j = 5 ∨ j = 6 := by omega
          · have c5 := hide (fun (rb : Nat) W (HR : Rest W rb z) => get0_any rb z W HR)
            have hpa : ∀ W, (Instr.index 118 partsV (.int .i64 0)).run Try.prog W = .ok (partV 0) W := fun W => parts_at 0 (by omega) W
            simp only [partV] at hpa c5
            have hs181 : ¬ (0 ≤ z 1 ∧ z 1 < 6) → R = 181 := fun h => unhide r1 (fun hh => h (by have := hh; unfold slotP at this; omega))
            by_cases s1 : z 1 < 0
            · have hres := hs181 (by omega)
              subst hres
              go_wp2_with fail
              refine (unhide c5 (wr.heap.size + 1) _ (fun i hi => ?_)).mono ?_
              · rcases i with _ | _ | _ | _ | _ | _ | _ | _ | i
                all_goals first | omega | (refine ⟨?_, ?_⟩ <;> go_simp)
              rintro e w5 ⟨rfl, hb5⟩
              have hz5 := hb5.size
              simp only [World.size_alloc] at hz5
              have q5 := (hb5.cell (p := ⟨wr.heap.size, 2, none⟩) (by simp <;> omega)).trans (show _ = some (Value.bool true) by go_simp)
              have hB5 : Below w4.heap.size w4 w5 := by repeat (first | exact Below.refl _ _ | assumption | refine Below.alloc ?_ (by first | (simp; done) | (simp; omega) | omega) _ | refine Below.setCell ?_ (by first | (simp; done) | (simp; omega) | omega) _ | apply Below.drew | refine Below.trans ?_ (Below.mono (by assumption) (by first | (simp; done) | (simp; omega) | omega)))
              clear hb5
              go_wp2
              (try (go_step3; refine fwd_goto ?_; go_wp2))
              (first | rw [fwd_ret] | rw [Exit.noGoto_ret] | skip)
              go_ret
              exact ⟨rfl, (unhide HB4).trans (hB5.mono (by omega))⟩
            by_cases s2 : 6 ≤ z 1
            · have hres := hs181 (by omega)
              subst hres
              go_wp2_with fail
              refine (unhide c5 (wr.heap.size + 1) _ (fun i hi => ?_)).mono ?_
              · rcases i with _ | _ | _ | _ | _ | _ | _ | _ | i
                all_goals first | omega | (refine ⟨?_, ?_⟩ <;> go_simp)
              rintro e w5 ⟨rfl, hb5⟩
              have hz5 := hb5.size
              simp only [World.size_alloc] at hz5
              have q5 := (hb5.cell (p := ⟨wr.heap.size, 2, none⟩) (by simp <;> omega)).trans (show _ = some (Value.bool true) by go_simp)
              have hB5 : Below w4.heap.size w4 w5 := by repeat (first | exact Below.refl _ _ | assumption | refine Below.alloc ?_ (by first | (simp; done) | (simp; omega) | omega) _ | refine Below.setCell ?_ (by first | (simp; done) | (simp; omega) | omega) _ | apply Below.drew | refine Below.trans ?_ (Below.mono (by assumption) (by first | (simp; done) | (simp; omega) | omega)))
              clear hb5
              go_wp2
              (try (go_step3; refine fwd_goto ?_; go_wp2))
              (first | rw [fwd_ret] | rw [Exit.noGoto_ret] | skip)
              go_ret
              exact ⟨rfl, (unhide HB4).trans (hB5.mono (by omega))⟩
            go_wp2_with fail
            refine (unhide c5 (wr.heap.size + 1) _ (fun i hi => ?_)).mono ?_
            · rcases i with _ | _ | _ | _ | _ | _ | _ | _ | i
              all_goals first | omega | (refine ⟨?_, ?_⟩ <;> go_simp)
            rintro e w5 ⟨rfl, hb5⟩
            have hz5 := hb5.size
            simp only [World.size_alloc] at hz5
            have q5 := (hb5.cell (p := ⟨wr.heap.size, 2, none⟩) (by simp <;> omega)).trans (show _ = some (Value.bool true) by go_simp)
            have hB5 : Below w4.heap.size w4 w5 := by repeat (first | exact Below.refl _ _ | assumption | refine Below.alloc ?_ (by first | (simp; done) | (simp; omega) | omega) _ | refine Below.setCell ?_ (by first | (simp; done) | (simp; omega) | omega) _ | apply Below.drew | refine Below.trans ?_ (Below.mono (by assumption) (by first | (simp; done) | (simp; omega) | omega)))
            clear hb5
            go_wp2
            go_roundw
            case measure => simp [intOf]
            case rel => exact ⟨1, by omega, by go_num, hide (fun p h1 h2 => by
              by_cases e : p = 0
              · subst e; exact ⟨by omega, by omega⟩
              · exact unhide HK p (by omega) h2), hB5⟩
          · have c5 := hide (fun (rb : Nat) W (HR : Rest W rb z) => get1_any rb z W HR)
            have hpa : ∀ W, (Instr.index 118 partsV (.int .i64 1)).run Try.prog W = .ok (partV 1) W := fun W => parts_at 1 (by omega) W
            simp only [partV] at hpa c5
            have hs181 : ¬ (0 ≤ z 2 ∧ z 2 < 6) → R = 181 := fun h => unhide r1 (fun hh => h (by have := hh; unfold slotP at this; omega))
            by_cases s1 : z 2 < 0
            · have hres := hs181 (by omega)
              subst hres
              go_wp2_with fail
              refine (unhide c5 (wr.heap.size + 1) _ (fun i hi => ?_)).mono ?_
              · rcases i with _ | _ | _ | _ | _ | _ | _ | _ | i
                all_goals first | omega | (refine ⟨?_, ?_⟩ <;> go_simp)
              rintro e w5 ⟨rfl, hb5⟩
              have hz5 := hb5.size
              simp only [World.size_alloc] at hz5
              have q5 := (hb5.cell (p := ⟨wr.heap.size, 2, none⟩) (by simp <;> omega)).trans (show _ = some (Value.bool true) by go_simp)
              have hB5 : Below w4.heap.size w4 w5 := by repeat (first | exact Below.refl _ _ | assumption | refine Below.alloc ?_ (by first | (simp; done) | (simp; omega) | omega) _ | refine Below.setCell ?_ (by first | (simp; done) | (simp; omega) | omega) _ | apply Below.drew | refine Below.trans ?_ (Below.mono (by assumption) (by first | (simp; done) | (simp; omega) | omega)))
              clear hb5
              go_wp2
              (try (go_step3; refine fwd_goto ?_; go_wp2))
              (first | rw [fwd_ret] | rw [Exit.noGoto_ret] | skip)
              go_ret
              exact ⟨rfl, (unhide HB4).trans (hB5.mono (by omega))⟩
            by_cases s2 : 6 ≤ z 2
            · have hres := hs181 (by omega)
              subst hres
              go_wp2_with fail
              refine (unhide c5 (wr.heap.size + 1) _ (fun i hi => ?_)).mono ?_
              · rcases i with _ | _ | _ | _ | _ | _ | _ | _ | i
                all_goals first | omega | (refine ⟨?_, ?_⟩ <;> go_simp)
              rintro e w5 ⟨rfl, hb5⟩
              have hz5 := hb5.size
              simp only [World.size_alloc] at hz5
              have q5 := (hb5.cell (p := ⟨wr.heap.size, 2, none⟩) (by simp <;> omega)).trans (show _ = some (Value.bool true) by go_simp)
              have hB5 : Below w4.heap.size w4 w5 := by repeat (first | exact Below.refl _ _ | assumption | refine Below.alloc ?_ (by first | (simp; done) | (simp; omega) | omega) _ | refine Below.setCell ?_ (by first | (simp; done) | (simp; omega) | omega) _ | apply Below.drew | refine Below.trans ?_ (Below.mono (by assumption) (by first | (simp; done) | (simp; omega) | omega)))
              clear hb5
              go_wp2
              (try (go_step3; refine fwd_goto ?_; go_wp2))
              (first | rw [fwd_ret] | rw [Exit.noGoto_ret] | skip)
              go_ret
              exact ⟨rfl, (unhide HB4).trans (hB5.mono (by omega))⟩
            go_wp2_with fail
            refine (unhide c5 (wr.heap.size + 1) _ (fun i hi => ?_)).mono ?_
            · rcases i with _ | _ | _ | _ | _ | _ | _ | _ | i
              all_goals first | omega | (refine ⟨?_, ?_⟩ <;> go_simp)
            rintro e w5 ⟨rfl, hb5⟩
            have hz5 := hb5.size
            simp only [World.size_alloc] at hz5
            have q5 := (hb5.cell (p := ⟨wr.heap.size, 2, none⟩) (by simp <;> omega)).trans (show _ = some (Value.bool true) by go_simp)
            have hB5 : Below w4.heap.size w4 w5 := by repeat (first | exact Below.refl _ _ | assumption | refine Below.alloc ?_ (by first | (simp; done) | (simp; omega) | omega) _ | refine Below.setCell ?_ (by first | (simp; done) | (simp; omega) | omega) _ | apply Below.drew | refine Below.trans ?_ (Below.mono (by assumption) (by first | (simp; done) | (simp; omega) | omega)))
            clear hb5
            go_wp2
            go_roundw
            case measure => simp [intOf]
            case rel => exact ⟨2, by omega, by go_num, hide (fun p h1 h2 => by
              by_cases e : p = 1
              · subst e; exact ⟨by omega, by omega⟩
              · exact unhide HK p (by omega) h2), hB5⟩
          · have c5 := hide (fun (rb : Nat) W (HR : Rest W rb z) => get2_any rb z W HR)
            have hpa : ∀ W, (Instr.index 118 partsV (.int .i64 2)).run Try.prog W = .ok (partV 2) W := fun W => parts_at 2 (by omega) W
            simp only [partV] at hpa c5
            have hs181 : ¬ (0 ≤ z 3 ∧ z 3 < 6) → R = 181 := fun h => unhide r1 (fun hh => h (by have := hh; unfold slotP at this; omega))
            by_cases s1 : z 3 < 0
            · have hres := hs181 (by omega)
              subst hres
              go_wp2_with fail
              refine (unhide c5 (wr.heap.size + 1) _ (fun i hi => ?_)).mono ?_
              · rcases i with _ | _ | _ | _ | _ | _ | _ | _ | i
                all_goals first | omega | (refine ⟨?_, ?_⟩ <;> go_simp)
              rintro e w5 ⟨rfl, hb5⟩
              have hz5 := hb5.size
              simp only [World.size_alloc] at hz5
              have q5 := (hb5.cell (p := ⟨wr.heap.size, 2, none⟩) (by simp <;> omega)).trans (show _ = some (Value.bool true) by go_simp)
              have hB5 : Below w4.heap.size w4 w5 := by repeat (first | exact Below.refl _ _ | assumption | refine Below.alloc ?_ (by first | (simp; done) | (simp; omega) | omega) _ | refine Below.setCell ?_ (by first | (simp; done) | (simp; omega) | omega) _ | apply Below.drew | refine Below.trans ?_ (Below.mono (by assumption) (by first | (simp; done) | (simp; omega) | omega)))
              clear hb5
              go_wp2
              (try (go_step3; refine fwd_goto ?_; go_wp2))
              (first | rw [fwd_ret] | rw [Exit.noGoto_ret] | skip)
              go_ret
              exact ⟨rfl, (unhide HB4).trans (hB5.mono (by omega))⟩
            by_cases s2 : 6 ≤ z 3
            · have hres := hs181 (by omega)
              subst hres
              go_wp2_with fail
              refine (unhide c5 (wr.heap.size + 1) _ (fun i hi => ?_)).mono ?_
              · rcases i with _ | _ | _ | _ | _ | _ | _ | _ | i
                all_goals first | omega | (refine ⟨?_, ?_⟩ <;> go_simp)
              rintro e w5 ⟨rfl, hb5⟩
              have hz5 := hb5.size
              simp only [World.size_alloc] at hz5
              have q5 := (hb5.cell (p := ⟨wr.heap.size, 2, none⟩) (by simp <;> omega)).trans (show _ = some (Value.bool true) by go_simp)
              have hB5 : Below w4.heap.size w4 w5 := by repeat (first | exact Below.refl _ _ | assumption | refine Below.alloc ?_ (by first | (simp; done) | (simp; omega) | omega) _ | refine Below.setCell ?_ (by first | (simp; done) | (simp; omega) | omega) _ | apply Below.drew | refine Below.trans ?_ (Below.mono (by assumption) (by first | (simp; done) | (simp; omega) | omega)))
              clear hb5
              go_wp2
              (try (go_step3; refine fwd_goto ?_; go_wp2))
              (first | rw [fwd_ret] | rw [Exit.noGoto_ret] | skip)
              go_ret
              exact ⟨rfl, (unhide HB4).trans (hB5.mono (by omega))⟩
            go_wp2_with fail
            refine (unhide c5 (wr.heap.size + 1) _ (fun i hi => ?_)).mono ?_
            · rcases i with _ | _ | _ | _ | _ | _ | _ | _ | i
              all_goals first | omega | (refine ⟨?_, ?_⟩ <;> go_simp)
            rintro e w5 ⟨rfl, hb5⟩
            have hz5 := hb5.size
            simp only [World.size_alloc] at hz5
            have q5 := (hb5.cell (p := ⟨wr.heap.size, 2, none⟩) (by simp <;> omega)).trans (show _ = some (Value.bool true) by go_simp)
            have hB5 : Below w4.heap.size w4 w5 := by repeat (first | exact Below.refl _ _ | assumption | refine Below.alloc ?_ (by first | (simp; done) | (simp; omega) | omega) _ | refine Below.setCell ?_ (by first | (simp; done) | (simp; omega) | omega) _ | apply Below.drew | refine Below.trans ?_ (Below.mono (by assumption) (by first | (simp; done) | (simp; omega) | omega)))
            clear hb5
            go_wp2
            go_roundw
            case measure => simp [intOf]
            case rel => exact ⟨3, by omega, by go_num, hide (fun p h1 h2 => by
              by_cases e : p = 2
              · subst e; exact ⟨by omega, by omega⟩
              · exact unhide HK p (by omega) h2), hB5⟩
          · have c5 := hide (fun (rb : Nat) W (HR : Rest W rb z) => get3_any rb z W HR)
            have hpa : ∀ W, (Instr.index 118 partsV (.int .i64 3)).run Try.prog W = .ok (partV 3) W := fun W => parts_at 3 (by omega) W
            simp only [partV] at hpa c5
            go_wp2_with fail
            refine (unhide c5 (wr.heap.size + 1) _ (fun i hi => ?_)).mono ?_
            · rcases i with _ | _ | _ | _ | _ | _ | _ | _ | i
              all_goals first | omega | (refine ⟨?_, ?_⟩ <;> go_simp)
            rintro e w5 ⟨rfl, hb5⟩
            have hz5 := hb5.size
            simp only [World.size_alloc] at hz5
            have q5 := (hb5.cell (p := ⟨wr.heap.size, 2, none⟩) (by simp <;> omega)).trans (show _ = some (Value.bool false) by go_simp)
            have hB5 : Below w4.heap.size w4 w5 := by repeat (first | exact Below.refl _ _ | assumption | refine Below.alloc ?_ (by first | (simp; done) | (simp; omega) | omega) _ | refine Below.setCell ?_ (by first | (simp; done) | (simp; omega) | omega) _ | apply Below.drew | refine Below.trans ?_ (Below.mono (by assumption) (by first | (simp; done) | (simp; omega) | omega)))
            clear hb5
            go_wp2
            go_roundw
            case measure => simp [intOf]
            case rel => exact ⟨4, by omega, by go_num, hide (fun p h1 h2 => by
              by_cases e : p = 3
              · subst e; exact absurd h2 (by omega)
              · exact unhide HK p (by omega) h2), hB5⟩
          · have c5 := hide (fun (rb : Nat) W (HR : Rest W rb z) => get4_any rb z W HR)
            have hpa : ∀ W, (Instr.index 118 partsV (.int .i64 4)).run Try.prog W = .ok (partV 4) W := fun W => parts_at 4 (by omega) W
            simp only [partV] at hpa c5
            go_wp2_with fail
            refine (unhide c5 (wr.heap.size + 1) _ (fun i hi => ?_)).mono ?_
            · rcases i with _ | _ | _ | _ | _ | _ | _ | _ | i
              all_goals first | omega | (refine ⟨?_, ?_⟩ <;> go_simp)
            rintro e w5 ⟨rfl, hb5⟩
            have hz5 := hb5.size
            simp only [World.size_alloc] at hz5
            have q5 := (hb5.cell (p := ⟨wr.heap.size, 2, none⟩) (by simp <;> omega)).trans (show _ = some (Value.bool false) by go_simp)
            have hB5 : Below w4.heap.size w4 w5 := by repeat (first | exact Below.refl _ _ | assumption | refine Below.alloc ?_ (by first | (simp; done) | (simp; omega) | omega) _ | refine Below.setCell ?_ (by first | (simp; done) | (simp; omega) | omega) _ | apply Below.drew | refine Below.trans ?_ (Below.mono (by assumption) (by first | (simp; done) | (simp; omega) | omega)))
            clear hb5
            go_wp2
            go_roundw
            case measure => simp [intOf]
            case rel => exact ⟨5, by omega, by go_num, hide (fun p h1 h2 => by
              by_cases e : p = 4
              · subst e; exact absurd h2 (by omega)
              · exact unhide HK p (by omega) h2), hB5⟩
          · have c5 := hide (fun (rb : Nat) W (HR : Rest W rb z) => get5_any rb z W HR)
            have hpa : ∀ W, (Instr.index 118 partsV (.int .i64 5)).run Try.prog W = .ok (partV 5) W := fun W => parts_at 5 (by omega) W
            simp only [partV] at hpa c5
            go_wp2_with fail
            refine (unhide c5 (wr.heap.size + 1) _ (fun i hi => ?_)).mono ?_
            · rcases i with _ | _ | _ | _ | _ | _ | _ | _ | i
              all_goals first | omega | (refine ⟨?_, ?_⟩ <;> go_simp)
            rintro e w5 ⟨rfl, hb5⟩
            have hz5 := hb5.size
            simp only [World.size_alloc] at hz5
            have q5 := (hb5.cell (p := ⟨wr.heap.size, 2, none⟩) (by simp <;> omega)).trans (show _ = some (Value.bool false) by go_simp)
            have hB5 : Below w4.heap.size w4 w5 := by repeat (first | exact Below.refl _ _ | assumption | refine Below.alloc ?_ (by first | (simp; done) | (simp; omega) | omega) _ | refine Below.setCell ?_ (by first | (simp; done) | (simp; omega) | omega) _ | apply Below.drew | refine Below.trans ?_ (Below.mono (by assumption) (by first | (simp; done) | (simp; omega) | omega)))
            clear hb5
            go_wp2
            go_roundw
            case measure => simp [intOf]
            case rel => exact ⟨6, by omega, by go_num, hide (fun p h1 h2 => by
              by_cases e : p = 5
              · subst e; exact absurd h2 (by omega)
              · exact unhide HK p (by omega) h2), hB5⟩
          · have c5 := hide (fun (rb : Nat) W (HR : Rest W rb z) => get6_any rb z W HR)
            have hpa : ∀ W, (Instr.index 118 partsV (.int .i64 6)).run Try.prog W = .ok (partV 6) W := fun W => parts_at 6 (by omega) W
            simp only [partV] at hpa c5
            go_wp2_with fail
            refine (unhide c5 (wr.heap.size + 1) _ (fun i hi => ?_)).mono ?_
            · rcases i with _ | _ | _ | _ | _ | _ | _ | _ | i
              all_goals first | omega | (refine ⟨?_, ?_⟩ <;> go_simp)
            rintro e w5 ⟨rfl, hb5⟩
            have hz5 := hb5.size
            simp only [World.size_alloc] at hz5
            have q5 := (hb5.cell (p := ⟨wr.heap.size, 2, none⟩) (by simp <;> omega)).trans (show _ = some (Value.bool false) by go_simp)
            have hB5 : Below w4.heap.size w4 w5 := by repeat (first | exact Below.refl _ _ | assumption | refine Below.alloc ?_ (by first | (simp; done) | (simp; omega) | omega) _ | refine Below.setCell ?_ (by first | (simp; done) | (simp; omega) | omega) _ | apply Below.drew | refine Below.trans ?_ (Below.mono (by assumption) (by first | (simp; done) | (simp; omega) | omega)))
            clear hb5
            go_wp2
            go_roundw
            case measure => simp [intOf]
            case rel => exact ⟨7, by omega, by go_num, hide (fun p h1 h2 => by
              by_cases e : p = 6
              · subst e; exact absurd h2 (by omega)
              · exact unhide HK p (by omega) h2), hB5⟩
        · obtain rfl : j = 7 := by omega
          have hslot : slotP z := ⟨unhide HK 0 (by omega) (by omega), unhide HK 1 (by omega) (by omega), unhide HK 2 (by omega) (by omega)⟩
          have HB := hide ((unhide HB4).trans (hBr.mono (by omega)))
          by_cases s1 : z 0 = 1
          · have hres := unhide r2 hslot s1
            subst hres
            go_wp2_with fail
            refine (unhide c4 _ (unhide HB)).mono ?_
            rintro e w5 ⟨rfl, hb5⟩
            have hz5 := hb5.size
            go_wp2
            (first | rw [fwd_ret] | rw [Exit.noGoto_ret] | skip)
            go_ret
            exact ⟨rfl, (unhide HB).trans (hb5.mono (by omega))⟩
          have i0 : ∀ (a b : Value) (W : World), (Instr.index 124 (.agg #[a, b]) (.int .i64 0)).run Try.prog W = .ok a W := fun a b W => rfl
          have i1 : ∀ (a b : Value) (W : World), (Instr.index 124 (.agg #[a, b]) (.int .i64 1)).run Try.prog W = .ok b W := fun a b W => rfl
          have s1b : (z 0 == 1) = false := by simpa using s1
          by_cases s2 : z 6 < -576460752303423488
          · have hres := unhide r3 hslot s1 (fun h => by unfold valP at h; omega)
            subst hres
            go_wp2
            refine wp_loop_rounds 1 ?_
            rw [rounds_succ]
            go_wp2
            (try (go_step3; refine fwd_goto ?_; go_wp2))
            (first | rw [fwd_ret] | rw [Exit.noGoto_ret] | skip)
            go_ret
            exact ⟨rfl, unhide HB⟩
          by_cases s3 : 576460752303423487 < z 6
          · have hres := unhide r3 hslot s1 (fun h => by unfold valP at h; omega)
            subst hres
            go_wp2
            refine wp_loop_rounds 1 ?_
            rw [rounds_succ]
            go_wp2
            (try (go_step3; refine fwd_goto ?_; go_wp2))
            (first | rw [fwd_ret] | rw [Exit.noGoto_ret] | skip)
            go_ret
            exact ⟨rfl, unhide HB⟩
          by_cases s4 : z 7 < -576460752303423488
          · have hres := unhide r3 hslot s1 (fun h => by unfold valP at h; omega)
            subst hres
            go_wp2
            refine wp_loop_rounds 2 ?_
            rw [rounds_succ]
            go_wp2
            rw [rounds_succ]
            go_wp2
            (try (go_step3; refine fwd_goto ?_; go_wp2))
            (first | rw [fwd_ret] | rw [Exit.noGoto_ret] | skip)
            go_ret
            exact ⟨rfl, unhide HB⟩
          by_cases s5 : 576460752303423487 < z 7
          · have hres := unhide r3 hslot s1 (fun h => by unfold valP at h; omega)
            subst hres
            go_wp2
            refine wp_loop_rounds 2 ?_
            rw [rounds_succ]
            go_wp2
            rw [rounds_succ]
            go_wp2
            (try (go_step3; refine fwd_goto ?_; go_wp2))
            (first | rw [fwd_ret] | rw [Exit.noGoto_ret] | skip)
            go_ret
            exact ⟨rfl, unhide HB⟩
          have hres := unhide r4 hslot s1 (by unfold valP; omega)
          subst hres
          go_wp2
          refine wp_loop_rounds 3 ?_
          rw [rounds_succ]
          go_wp2
          rw [rounds_succ]
          go_wp2
          rw [rounds_succ]
          go_wp2
          (first | rw [fwd_ret] | rw [Exit.noGoto_ret] | skip)
          go_ret
          exact ⟨rfl, unhide HB⟩
end Go.Proofs.Ytbkaopeajjechaa
