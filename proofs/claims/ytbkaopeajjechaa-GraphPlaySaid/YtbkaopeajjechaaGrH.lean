/- The walks of the reference of layer 8, further: bare, Check, a field's kind. -/
import Derived.Test.YtbkaopeajjechaaGrG
namespace Go.Proofs.Ytbkaopeajjechaa
set_option linter.unusedVariables false
set_option linter.unusedSimpArgs false
open Go.RowKit Go.Maps

theorem nm_mem (k p : Nat) (hk : k ≤ 11) (hp : p < 7) : ((nmT k).data.toList.any fun b => b.toNat == ltrOf p) = decide (p ∈ nmL k) := by
  have : ∀ k, k < 12 → ∀ p, p < 7 → ((nmT k).data.toList.any fun b => b.toNat == ltrOf p) = decide (p ∈ nmL k) := by decide
  exact this k (by omega) p hp

theorem any_iff (s : ByteArray) (c : Nat) : (s.data.toList.any fun b => b.toNat == c) = true ↔ ∃ i, ∃ h : i < s.size, (s[i]'h).toNat = c := by
  have hq : ∀ (i : Nat) (h : i < s.size) (h2 : i < s.data.toList.length), s.data.toList[i]'h2 = s[i]'h := fun i h h2 => by rw [Array.getElem_toList]; rfl
  have hs : s.data.toList.length = s.size := by rw [Array.length_toList]; rfl
  rw [List.any_eq_true]
  constructor
  · rintro ⟨b, hb, he⟩
    obtain ⟨i, hi, rfl⟩ := List.mem_iff_getElem.1 hb
    have h : i < s.size := by omega
    rw [hq i h hi] at he
    exact ⟨i, h, by simpa using he⟩
  · rintro ⟨i, h, e⟩
    exact ⟨s[i]'h, List.mem_iff_getElem.2 ⟨i, by omega, hq i h _⟩, by simpa using e⟩

theorem named_any (k p : Nat) (hk : k ≤ 11) (hp : p < 7) (w : World) :
    Calls Try.prog 102 #[.string (nmT k), .int .u8 (ltrOf p : Nat)] w fun e w' => e = .returned (.bool (decide (p ∈ nmL k))) ∧ w = w' := by
  refine refNamed_any (nmT k) (ltrOf p) ?_ w ?_ _ ?_
  · unfold ltrOf; split <;> omega
  · unfold nmT; split <;> decide
  · rw [← nm_mem k p hk hp, Bool.eq_iff_iff, any_iff, decide_eq_true_eq]

set_option maxRecDepth 100000 in
set_option maxHeartbeats 4000000 in
theorem refBare_any (z : Nat → Int) (w : World) :
    Calls Try.prog 94 #[opV z] w fun e w' => e = .returned (.bool (bareB z)) ∧ Below w.heap.size w w' := by
  by_cases hk : 1 ≤ z 0 ∧ z 0 ≤ 11
  · obtain ⟨k, hk0⟩ : ∃ k : Nat, z 0 = (k : Int) := ⟨(z 0).toNat, by omega⟩
    have c1 := hide (fun W => refNames_any k (by omega) (by omega) W)
    rw [← hk0] at c1
    have c2 := hide (fun p (hp : p < 7) W => named_any k p (by omega) hp W)
    have hkk : (z 0).toNat = k := by omega
    have ht : Hid ((∀ p, p < 7 → p ∉ nmL k → z (p + 1) = 0) → bareB z = true) := hide (fun h => bareB_iff.2 ⟨hk, by rw [hkk]; exact h⟩)
    have hf : Hid (∀ p, p < 7 → p ∉ nmL k → ¬ z (p + 1) = 0 → bareB z = false) := hide (fun p hp hm h => bareB_no (fun hh => h (hh.2 p hp (by rw [hkk]; exact hm))))
    have g1 : ¬ z 0 < 1 := by omega
    have g2 : ¬ 11 < z 0 := by omega
    clear hk0 hkk hk
    generalize nmL k = L at *
    generalize nmT k = T at *
    generalize bareB z = R at *
    go_enter Try.func94, Try.ntmps94
    go_wp2
    go_loopw [5] (fun i wr => ∃ j : Nat, j ≤ 7 ∧ i = .int .i64 j ∧ Hid (∀ p, p < j → p ∉ L → z (p + 1) = 0) ∧ Below w.heap.size w wr ∧ Hid (opAt wr w.heap.size z)) (fun i _ => 7 - (intOf i).toNat)
    case atStart =>
      refine ⟨0, by omega, rfl, hide (fun p h => by omega), by repeat (first | exact Below.refl _ _ | assumption | refine Below.alloc ?_ (by first | (simp; done) | (simp; omega) | omega) _ | refine Below.setCell ?_ (by first | (simp; done) | (simp; omega) | omega) _ | apply Below.drew | refine Below.trans ?_ (Below.mono (by assumption) (by first | (simp; done) | (simp; omega) | omega))), hide (fun i hi => ?_)⟩
      rcases i with _ | _ | _ | _ | _ | _ | _ | _ | i
      all_goals first | omega | go_simp
    case round =>
      obtain ⟨j, hj, rfl, HK, hBr, hop⟩ := hrel
      have hq0 : w.heap.size < wr.heap.size := block_lt ((unhide hop) 0 (by omega))
      have m0 : ∀ v : Later wr, v.val.cell? ⟨w.heap.size, 0, none⟩ = some (.int .i64 (z 0)) := Later.cell hq0 ((unhide hop) 0 (by omega))
      have m1 : ∀ v : Later wr, v.val.cell? ⟨w.heap.size, 1, none⟩ = some (.int .i64 (z 1)) := Later.cell hq0 ((unhide hop) 1 (by omega))
      have m2 : ∀ v : Later wr, v.val.cell? ⟨w.heap.size, 2, none⟩ = some (.int .i64 (z 2)) := Later.cell hq0 ((unhide hop) 2 (by omega))
      have m3 : ∀ v : Later wr, v.val.cell? ⟨w.heap.size, 3, none⟩ = some (.int .i64 (z 3)) := Later.cell hq0 ((unhide hop) 3 (by omega))
      have m4 : ∀ v : Later wr, v.val.cell? ⟨w.heap.size, 4, none⟩ = some (.int .i64 (z 4)) := Later.cell hq0 ((unhide hop) 4 (by omega))
      have m5 : ∀ v : Later wr, v.val.cell? ⟨w.heap.size, 5, none⟩ = some (.int .i64 (z 5)) := Later.cell hq0 ((unhide hop) 5 (by omega))
      have m6 : ∀ v : Later wr, v.val.cell? ⟨w.heap.size, 6, none⟩ = some (.int .i64 (z 6)) := Later.cell hq0 ((unhide hop) 6 (by omega))
      have m7 : ∀ v : Later wr, v.val.cell? ⟨w.heap.size, 7, none⟩ = some (.int .i64 (z 7)) := Later.cell hq0 ((unhide hop) 7 (by omega))
      have C1 := hide (fun (v : Later wr) => later_call (unhide c1 v.val))
      by_cases hlt : j < 7
      · obtain rfl | rfl | rfl | rfl | rfl | rfl | rfl : j = 0 ∨ j = 1 ∨ j = 2 ∨ j = 3 ∨ j = 4 ∨ j = 5 ∨ j = 6 := by omega
        · have C3 : Hid (∀ v : Later wr, Calls Try.prog 96 #[opV z, .int .u8 65] v.val fun e w'' => e = .returned (.int .i64 (z 1)) ∧ ∃ s' : Later wr, w'' = s'.val) := hide (fun v => later_call (refGet0_any z v.val))
          have C2 : Hid (∀ v : Later wr, Calls Try.prog 102 #[.string T, .int .u8 65] v.val fun e w'' => e = .returned (.bool (decide (0 ∈ L))) ∧ ∃ s' : Later wr, w'' = s'.val) := hide (fun v => later_same (unhide c2 0 (by omega) v.val))
          by_cases hm : 0 ∈ L
          · have hd : decide (0 ∈ L) = true := by simpa using hm
            rw [hd] at C2
            go_wp2
            refine wp_region_later wr (by kernel_rfl) (by kernel_rfl) (by repeat (first | exact Below.refl _ _ | assumption | refine Below.alloc ?_ (by first | (simp; done) | (simp; omega) | omega) _ | refine Below.setCell ?_ (by first | (simp; done) | (simp; omega) | omega) _ | apply Below.drew | refine Below.trans ?_ (Below.mono (by assumption) (by first | (simp; done) | (simp; omega) | omega)))) ?_; (repeat (first | go_big_quiet_skip | (go_big_quiet_want; (first | ((fail); go_big_quiet_on; simp only [Act.put, List.setIfInBounds_toArray, List.set_cons_zero, List.set_cons_succ]) | (go_big_quiet_op; (first | go_big_quiet_on | go_big_quiet_call ((first | (go_at_call 95; exact unhide C1 _) | (go_at_call 102; exact unhide C2 _) | (go_at_call 96; exact unhide C3 _))))))))); refine wpQuiet_nil ?_
            intro w3 hw3
            have hop3 : Hid (opAt w3 w.heap.size z) := hide (fun i hi => (hw3.cell (p := ⟨w.heap.size, i, none⟩) hq0).trans ((unhide hop) i hi))
            have hB3 : Below w.heap.size w w3 := hBr.trans (hw3.mono (by omega))
            clear m0 m1 m2 m3 m4 m5 m6 m7 hw3
            go_wp2
            go_roundw
            case measure => simp [intOf]
            case rel => exact ⟨1, by omega, by go_num, hide (fun p h1 h2 => by
              by_cases e : p = 0
              · subst e; exact absurd hm h2
              · exact unhide HK p (by omega) h2), hB3, hop3⟩
          · have hd : decide (0 ∈ L) = false := by simpa using hm
            rw [hd] at C2
            by_cases hz : z 1 = 0
            · have hz2 : (z 1 != 0) = false := by simpa using hz
              have HZ := hide hz
              clear hz
              go_wp2
              refine wp_region_later wr (by kernel_rfl) (by kernel_rfl) (by repeat (first | exact Below.refl _ _ | assumption | refine Below.alloc ?_ (by first | (simp; done) | (simp; omega) | omega) _ | refine Below.setCell ?_ (by first | (simp; done) | (simp; omega) | omega) _ | apply Below.drew | refine Below.trans ?_ (Below.mono (by assumption) (by first | (simp; done) | (simp; omega) | omega)))) ?_; (repeat (first | go_big_quiet_skip | (go_big_quiet_want; (first | ((fail); go_big_quiet_on; simp only [Act.put, List.setIfInBounds_toArray, List.set_cons_zero, List.set_cons_succ]) | (go_big_quiet_op; (first | go_big_quiet_on | go_big_quiet_call ((first | (go_at_call 95; exact unhide C1 _) | (go_at_call 102; exact unhide C2 _) | (go_at_call 96; exact unhide C3 _))))))))); refine wpQuiet_nil ?_
              intro w3 hw3
              have hop3 : Hid (opAt w3 w.heap.size z) := hide (fun i hi => (hw3.cell (p := ⟨w.heap.size, i, none⟩) hq0).trans ((unhide hop) i hi))
              have hB3 : Below w.heap.size w w3 := hBr.trans (hw3.mono (by omega))
              clear m0 m1 m2 m3 m4 m5 m6 m7 hw3
              go_wp2
              go_roundw
              case measure => simp [intOf]
              case rel => exact ⟨1, by omega, by go_num, hide (fun p h1 h2 => by
                by_cases e : p = 0
                · subst e; exact unhide HZ
                · exact unhide HK p (by omega) h2), hB3, hop3⟩
            · have hz2 : (z 1 != 0) = true := by simpa using hz
              have hres := unhide hf 0 (by omega) hm hz
              subst hres
              go_wp2
              refine wp_region_later wr (by kernel_rfl) (by kernel_rfl) (by repeat (first | exact Below.refl _ _ | assumption | refine Below.alloc ?_ (by first | (simp; done) | (simp; omega) | omega) _ | refine Below.setCell ?_ (by first | (simp; done) | (simp; omega) | omega) _ | apply Below.drew | refine Below.trans ?_ (Below.mono (by assumption) (by first | (simp; done) | (simp; omega) | omega)))) ?_; (repeat (first | go_big_quiet_skip | (go_big_quiet_want; (first | ((fail); go_big_quiet_on; simp only [Act.put, List.setIfInBounds_toArray, List.set_cons_zero, List.set_cons_succ]) | (go_big_quiet_op; (first | go_big_quiet_on | go_big_quiet_call ((first | (go_at_call 95; exact unhide C1 _) | (go_at_call 102; exact unhide C2 _) | (go_at_call 96; exact unhide C3 _))))))))); refine wpQuiet_nil ?_
              intro w3 hw3
              have hop3 : Hid (opAt w3 w.heap.size z) := hide (fun i hi => (hw3.cell (p := ⟨w.heap.size, i, none⟩) hq0).trans ((unhide hop) i hi))
              have hB3 : Below w.heap.size w w3 := hBr.trans (hw3.mono (by omega))
              clear m0 m1 m2 m3 m4 m5 m6 m7 hw3
              go_wp2
              go_ret
              exact ⟨rfl, hB3⟩
        · have C3 : Hid (∀ v : Later wr, Calls Try.prog 96 #[opV z, .int .u8 66] v.val fun e w'' => e = .returned (.int .i64 (z 2)) ∧ ∃ s' : Later wr, w'' = s'.val) := hide (fun v => later_call (refGet1_any z v.val))
          have C2 : Hid (∀ v : Later wr, Calls Try.prog 102 #[.string T, .int .u8 66] v.val fun e w'' => e = .returned (.bool (decide (1 ∈ L))) ∧ ∃ s' : Later wr, w'' = s'.val) := hide (fun v => later_same (unhide c2 1 (by omega) v.val))
          by_cases hm : 1 ∈ L
          · have hd : decide (1 ∈ L) = true := by simpa using hm
            rw [hd] at C2
            go_wp2
            refine wp_region_later wr (by kernel_rfl) (by kernel_rfl) (by repeat (first | exact Below.refl _ _ | assumption | refine Below.alloc ?_ (by first | (simp; done) | (simp; omega) | omega) _ | refine Below.setCell ?_ (by first | (simp; done) | (simp; omega) | omega) _ | apply Below.drew | refine Below.trans ?_ (Below.mono (by assumption) (by first | (simp; done) | (simp; omega) | omega)))) ?_; (repeat (first | go_big_quiet_skip | (go_big_quiet_want; (first | ((fail); go_big_quiet_on; simp only [Act.put, List.setIfInBounds_toArray, List.set_cons_zero, List.set_cons_succ]) | (go_big_quiet_op; (first | go_big_quiet_on | go_big_quiet_call ((first | (go_at_call 95; exact unhide C1 _) | (go_at_call 102; exact unhide C2 _) | (go_at_call 96; exact unhide C3 _))))))))); refine wpQuiet_nil ?_
            intro w3 hw3
            have hop3 : Hid (opAt w3 w.heap.size z) := hide (fun i hi => (hw3.cell (p := ⟨w.heap.size, i, none⟩) hq0).trans ((unhide hop) i hi))
            have hB3 : Below w.heap.size w w3 := hBr.trans (hw3.mono (by omega))
            clear m0 m1 m2 m3 m4 m5 m6 m7 hw3
            go_wp2
            go_roundw
            case measure => simp [intOf]
            case rel => exact ⟨2, by omega, by go_num, hide (fun p h1 h2 => by
              by_cases e : p = 1
              · subst e; exact absurd hm h2
              · exact unhide HK p (by omega) h2), hB3, hop3⟩
          · have hd : decide (1 ∈ L) = false := by simpa using hm
            rw [hd] at C2
            by_cases hz : z 2 = 0
            · have hz2 : (z 2 != 0) = false := by simpa using hz
              have HZ := hide hz
              clear hz
              go_wp2
              refine wp_region_later wr (by kernel_rfl) (by kernel_rfl) (by repeat (first | exact Below.refl _ _ | assumption | refine Below.alloc ?_ (by first | (simp; done) | (simp; omega) | omega) _ | refine Below.setCell ?_ (by first | (simp; done) | (simp; omega) | omega) _ | apply Below.drew | refine Below.trans ?_ (Below.mono (by assumption) (by first | (simp; done) | (simp; omega) | omega)))) ?_; (repeat (first | go_big_quiet_skip | (go_big_quiet_want; (first | ((fail); go_big_quiet_on; simp only [Act.put, List.setIfInBounds_toArray, List.set_cons_zero, List.set_cons_succ]) | (go_big_quiet_op; (first | go_big_quiet_on | go_big_quiet_call ((first | (go_at_call 95; exact unhide C1 _) | (go_at_call 102; exact unhide C2 _) | (go_at_call 96; exact unhide C3 _))))))))); refine wpQuiet_nil ?_
              intro w3 hw3
              have hop3 : Hid (opAt w3 w.heap.size z) := hide (fun i hi => (hw3.cell (p := ⟨w.heap.size, i, none⟩) hq0).trans ((unhide hop) i hi))
              have hB3 : Below w.heap.size w w3 := hBr.trans (hw3.mono (by omega))
              clear m0 m1 m2 m3 m4 m5 m6 m7 hw3
              go_wp2
              go_roundw
              case measure => simp [intOf]
              case rel => exact ⟨2, by omega, by go_num, hide (fun p h1 h2 => by
                by_cases e : p = 1
                · subst e; exact unhide HZ
                · exact unhide HK p (by omega) h2), hB3, hop3⟩
            · have hz2 : (z 2 != 0) = true := by simpa using hz
              have hres := unhide hf 1 (by omega) hm hz
              subst hres
              go_wp2
              refine wp_region_later wr (by kernel_rfl) (by kernel_rfl) (by repeat (first | exact Below.refl _ _ | assumption | refine Below.alloc ?_ (by first | (simp; done) | (simp; omega) | omega) _ | refine Below.setCell ?_ (by first | (simp; done) | (simp; omega) | omega) _ | apply Below.drew | refine Below.trans ?_ (Below.mono (by assumption) (by first | (simp; done) | (simp; omega) | omega)))) ?_; (repeat (first | go_big_quiet_skip | (go_big_quiet_want; (first | ((fail); go_big_quiet_on; simp only [Act.put, List.setIfInBounds_toArray, List.set_cons_zero, List.set_cons_succ]) | (go_big_quiet_op; (first | go_big_quiet_on | go_big_quiet_call ((first | (go_at_call 95; exact unhide C1 _) | (go_at_call 102; exact unhide C2 _) | (go_at_call 96; exact unhide C3 _))))))))); refine wpQuiet_nil ?_
              intro w3 hw3
              have hop3 : Hid (opAt w3 w.heap.size z) := hide (fun i hi => (hw3.cell (p := ⟨w.heap.size, i, none⟩) hq0).trans ((unhide hop) i hi))
              have hB3 : Below w.heap.size w w3 := hBr.trans (hw3.mono (by omega))
              clear m0 m1 m2 m3 m4 m5 m6 m7 hw3
              go_wp2
              go_ret
              exact ⟨rfl, hB3⟩
        · have C3 : Hid (∀ v : Later wr, Calls Try.prog 96 #[opV z, .int .u8 67] v.val fun e w'' => e = .returned (.int .i64 (z 3)) ∧ ∃ s' : Later wr, w'' = s'.val) := hide (fun v => later_call (refGet2_any z v.val))
          have C2 : Hid (∀ v : Later wr, Calls Try.prog 102 #[.string T, .int .u8 67] v.val fun e w'' => e = .returned (.bool (decide (2 ∈ L))) ∧ ∃ s' : Later wr, w'' = s'.val) := hide (fun v => later_same (unhide c2 2 (by omega) v.val))
          by_cases hm : 2 ∈ L
          · have hd : decide (2 ∈ L) = true := by simpa using hm
            rw [hd] at C2
            go_wp2
            refine wp_region_later wr (by kernel_rfl) (by kernel_rfl) (by repeat (first | exact Below.refl _ _ | assumption | refine Below.alloc ?_ (by first | (simp; done) | (simp; omega) | omega) _ | refine Below.setCell ?_ (by first | (simp; done) | (simp; omega) | omega) _ | apply Below.drew | refine Below.trans ?_ (Below.mono (by assumption) (by first | (simp; done) | (simp; omega) | omega)))) ?_; (repeat (first | go_big_quiet_skip | (go_big_quiet_want; (first | ((fail); go_big_quiet_on; simp only [Act.put, List.setIfInBounds_toArray, List.set_cons_zero, List.set_cons_succ]) | (go_big_quiet_op; (first | go_big_quiet_on | go_big_quiet_call ((first | (go_at_call 95; exact unhide C1 _) | (go_at_call 102; exact unhide C2 _) | (go_at_call 96; exact unhide C3 _))))))))); refine wpQuiet_nil ?_
            intro w3 hw3
            have hop3 : Hid (opAt w3 w.heap.size z) := hide (fun i hi => (hw3.cell (p := ⟨w.heap.size, i, none⟩) hq0).trans ((unhide hop) i hi))
            have hB3 : Below w.heap.size w w3 := hBr.trans (hw3.mono (by omega))
            clear m0 m1 m2 m3 m4 m5 m6 m7 hw3
            go_wp2
            go_roundw
            case measure => simp [intOf]
            case rel => exact ⟨3, by omega, by go_num, hide (fun p h1 h2 => by
              by_cases e : p = 2
              · subst e; exact absurd hm h2
              · exact unhide HK p (by omega) h2), hB3, hop3⟩
          · have hd : decide (2 ∈ L) = false := by simpa using hm
            rw [hd] at C2
            by_cases hz : z 3 = 0
            · have hz2 : (z 3 != 0) = false := by simpa using hz
              have HZ := hide hz
              clear hz
              go_wp2
              refine wp_region_later wr (by kernel_rfl) (by kernel_rfl) (by repeat (first | exact Below.refl _ _ | assumption | refine Below.alloc ?_ (by first | (simp; done) | (simp; omega) | omega) _ | refine Below.setCell ?_ (by first | (simp; done) | (simp; omega) | omega) _ | apply Below.drew | refine Below.trans ?_ (Below.mono (by assumption) (by first | (simp; done) | (simp; omega) | omega)))) ?_; (repeat (first | go_big_quiet_skip | (go_big_quiet_want; (first | ((fail); go_big_quiet_on; simp only [Act.put, List.setIfInBounds_toArray, List.set_cons_zero, List.set_cons_succ]) | (go_big_quiet_op; (first | go_big_quiet_on | go_big_quiet_call ((first | (go_at_call 95; exact unhide C1 _) | (go_at_call 102; exact unhide C2 _) | (go_at_call 96; exact unhide C3 _))))))))); refine wpQuiet_nil ?_
              intro w3 hw3
              have hop3 : Hid (opAt w3 w.heap.size z) := hide (fun i hi => (hw3.cell (p := ⟨w.heap.size, i, none⟩) hq0).trans ((unhide hop) i hi))
              have hB3 : Below w.heap.size w w3 := hBr.trans (hw3.mono (by omega))
              clear m0 m1 m2 m3 m4 m5 m6 m7 hw3
              go_wp2
              go_roundw
              case measure => simp [intOf]
              case rel => exact ⟨3, by omega, by go_num, hide (fun p h1 h2 => by
                by_cases e : p = 2
                · subst e; exact unhide HZ
                · exact unhide HK p (by omega) h2), hB3, hop3⟩
            · have hz2 : (z 3 != 0) = true := by simpa using hz
              have hres := unhide hf 2 (by omega) hm hz
              subst hres
              go_wp2
              refine wp_region_later wr (by kernel_rfl) (by kernel_rfl) (by repeat (first | exact Below.refl _ _ | assumption | refine Below.alloc ?_ (by first | (simp; done) | (simp; omega) | omega) _ | refine Below.setCell ?_ (by first | (simp; done) | (simp; omega) | omega) _ | apply Below.drew | refine Below.trans ?_ (Below.mono (by assumption) (by first | (simp; done) | (simp; omega) | omega)))) ?_; (repeat (first | go_big_quiet_skip | (go_big_quiet_want; (first | ((fail); go_big_quiet_on; simp only [Act.put, List.setIfInBounds_toArray, List.set_cons_zero, List.set_cons_succ]) | (go_big_quiet_op; (first | go_big_quiet_on | go_big_quiet_call ((first | (go_at_call 95; exact unhide C1 _) | (go_at_call 102; exact unhide C2 _) | (go_at_call 96; exact unhide C3 _))))))))); refine wpQuiet_nil ?_
              intro w3 hw3
              have hop3 : Hid (opAt w3 w.heap.size z) := hide (fun i hi => (hw3.cell (p := ⟨w.heap.size, i, none⟩) hq0).trans ((unhide hop) i hi))
              have hB3 : Below w.heap.size w w3 := hBr.trans (hw3.mono (by omega))
              clear m0 m1 m2 m3 m4 m5 m6 m7 hw3
              go_wp2
              go_ret
              exact ⟨rfl, hB3⟩
        · have C3 : Hid (∀ v : Later wr, Calls Try.prog 96 #[opV z, .int .u8 102] v.val fun e w'' => e = .returned (.int .i64 (z 4)) ∧ ∃ s' : Later wr, w'' = s'.val) := hide (fun v => later_call (refGet3_any z v.val))
          have C2 : Hid (∀ v : Later wr, Calls Try.prog 102 #[.string T, .int .u8 102] v.val fun e w'' => e = .returned (.bool (decide (3 ∈ L))) ∧ ∃ s' : Later wr, w'' = s'.val) := hide (fun v => later_same (unhide c2 3 (by omega) v.val))
          by_cases hm : 3 ∈ L
          · have hd : decide (3 ∈ L) = true := by simpa using hm
            rw [hd] at C2
            go_wp2
            refine wp_region_later wr (by kernel_rfl) (by kernel_rfl) (by repeat (first | exact Below.refl _ _ | assumption | refine Below.alloc ?_ (by first | (simp; done) | (simp; omega) | omega) _ | refine Below.setCell ?_ (by first | (simp; done) | (simp; omega) | omega) _ | apply Below.drew | refine Below.trans ?_ (Below.mono (by assumption) (by first | (simp; done) | (simp; omega) | omega)))) ?_; (repeat (first | go_big_quiet_skip | (go_big_quiet_want; (first | ((fail); go_big_quiet_on; simp only [Act.put, List.setIfInBounds_toArray, List.set_cons_zero, List.set_cons_succ]) | (go_big_quiet_op; (first | go_big_quiet_on | go_big_quiet_call ((first | (go_at_call 95; exact unhide C1 _) | (go_at_call 102; exact unhide C2 _) | (go_at_call 96; exact unhide C3 _))))))))); refine wpQuiet_nil ?_
            intro w3 hw3
            have hop3 : Hid (opAt w3 w.heap.size z) := hide (fun i hi => (hw3.cell (p := ⟨w.heap.size, i, none⟩) hq0).trans ((unhide hop) i hi))
            have hB3 : Below w.heap.size w w3 := hBr.trans (hw3.mono (by omega))
            clear m0 m1 m2 m3 m4 m5 m6 m7 hw3
            go_wp2
            go_roundw
            case measure => simp [intOf]
            case rel => exact ⟨4, by omega, by go_num, hide (fun p h1 h2 => by
              by_cases e : p = 3
              · subst e; exact absurd hm h2
              · exact unhide HK p (by omega) h2), hB3, hop3⟩
          · have hd : decide (3 ∈ L) = false := by simpa using hm
            rw [hd] at C2
            by_cases hz : z 4 = 0
            · have hz2 : (z 4 != 0) = false := by simpa using hz
              have HZ := hide hz
              clear hz
              go_wp2
              refine wp_region_later wr (by kernel_rfl) (by kernel_rfl) (by repeat (first | exact Below.refl _ _ | assumption | refine Below.alloc ?_ (by first | (simp; done) | (simp; omega) | omega) _ | refine Below.setCell ?_ (by first | (simp; done) | (simp; omega) | omega) _ | apply Below.drew | refine Below.trans ?_ (Below.mono (by assumption) (by first | (simp; done) | (simp; omega) | omega)))) ?_; (repeat (first | go_big_quiet_skip | (go_big_quiet_want; (first | ((fail); go_big_quiet_on; simp only [Act.put, List.setIfInBounds_toArray, List.set_cons_zero, List.set_cons_succ]) | (go_big_quiet_op; (first | go_big_quiet_on | go_big_quiet_call ((first | (go_at_call 95; exact unhide C1 _) | (go_at_call 102; exact unhide C2 _) | (go_at_call 96; exact unhide C3 _))))))))); refine wpQuiet_nil ?_
              intro w3 hw3
              have hop3 : Hid (opAt w3 w.heap.size z) := hide (fun i hi => (hw3.cell (p := ⟨w.heap.size, i, none⟩) hq0).trans ((unhide hop) i hi))
              have hB3 : Below w.heap.size w w3 := hBr.trans (hw3.mono (by omega))
              clear m0 m1 m2 m3 m4 m5 m6 m7 hw3
              go_wp2
              go_roundw
              case measure => simp [intOf]
              case rel => exact ⟨4, by omega, by go_num, hide (fun p h1 h2 => by
                by_cases e : p = 3
                · subst e; exact unhide HZ
                · exact unhide HK p (by omega) h2), hB3, hop3⟩
            · have hz2 : (z 4 != 0) = true := by simpa using hz
              have hres := unhide hf 3 (by omega) hm hz
              subst hres
              go_wp2
              refine wp_region_later wr (by kernel_rfl) (by kernel_rfl) (by repeat (first | exact Below.refl _ _ | assumption | refine Below.alloc ?_ (by first | (simp; done) | (simp; omega) | omega) _ | refine Below.setCell ?_ (by first | (simp; done) | (simp; omega) | omega) _ | apply Below.drew | refine Below.trans ?_ (Below.mono (by assumption) (by first | (simp; done) | (simp; omega) | omega)))) ?_; (repeat (first | go_big_quiet_skip | (go_big_quiet_want; (first | ((fail); go_big_quiet_on; simp only [Act.put, List.setIfInBounds_toArray, List.set_cons_zero, List.set_cons_succ]) | (go_big_quiet_op; (first | go_big_quiet_on | go_big_quiet_call ((first | (go_at_call 95; exact unhide C1 _) | (go_at_call 102; exact unhide C2 _) | (go_at_call 96; exact unhide C3 _))))))))); refine wpQuiet_nil ?_
              intro w3 hw3
              have hop3 : Hid (opAt w3 w.heap.size z) := hide (fun i hi => (hw3.cell (p := ⟨w.heap.size, i, none⟩) hq0).trans ((unhide hop) i hi))
              have hB3 : Below w.heap.size w w3 := hBr.trans (hw3.mono (by omega))
              clear m0 m1 m2 m3 m4 m5 m6 m7 hw3
              go_wp2
              go_ret
              exact ⟨rfl, hB3⟩
        · have C3 : Hid (∀ v : Later wr, Calls Try.prog 96 #[opV z, .int .u8 115] v.val fun e w'' => e = .returned (.int .i64 (z 5)) ∧ ∃ s' : Later wr, w'' = s'.val) := hide (fun v => later_call (refGet4_any z v.val))
          have C2 : Hid (∀ v : Later wr, Calls Try.prog 102 #[.string T, .int .u8 115] v.val fun e w'' => e = .returned (.bool (decide (4 ∈ L))) ∧ ∃ s' : Later wr, w'' = s'.val) := hide (fun v => later_same (unhide c2 4 (by omega) v.val))
          by_cases hm : 4 ∈ L
          · have hd : decide (4 ∈ L) = true := by simpa using hm
            rw [hd] at C2
            go_wp2
            refine wp_region_later wr (by kernel_rfl) (by kernel_rfl) (by repeat (first | exact Below.refl _ _ | assumption | refine Below.alloc ?_ (by first | (simp; done) | (simp; omega) | omega) _ | refine Below.setCell ?_ (by first | (simp; done) | (simp; omega) | omega) _ | apply Below.drew | refine Below.trans ?_ (Below.mono (by assumption) (by first | (simp; done) | (simp; omega) | omega)))) ?_; (repeat (first | go_big_quiet_skip | (go_big_quiet_want; (first | ((fail); go_big_quiet_on; simp only [Act.put, List.setIfInBounds_toArray, List.set_cons_zero, List.set_cons_succ]) | (go_big_quiet_op; (first | go_big_quiet_on | go_big_quiet_call ((first | (go_at_call 95; exact unhide C1 _) | (go_at_call 102; exact unhide C2 _) | (go_at_call 96; exact unhide C3 _))))))))); refine wpQuiet_nil ?_
            intro w3 hw3
            have hop3 : Hid (opAt w3 w.heap.size z) := hide (fun i hi => (hw3.cell (p := ⟨w.heap.size, i, none⟩) hq0).trans ((unhide hop) i hi))
            have hB3 : Below w.heap.size w w3 := hBr.trans (hw3.mono (by omega))
            clear m0 m1 m2 m3 m4 m5 m6 m7 hw3
            go_wp2
            go_roundw
            case measure => simp [intOf]
            case rel => exact ⟨5, by omega, by go_num, hide (fun p h1 h2 => by
              by_cases e : p = 4
              · subst e; exact absurd hm h2
              · exact unhide HK p (by omega) h2), hB3, hop3⟩
          · have hd : decide (4 ∈ L) = false := by simpa using hm
            rw [hd] at C2
            by_cases hz : z 5 = 0
            · have hz2 : (z 5 != 0) = false := by simpa using hz
              have HZ := hide hz
              clear hz
              go_wp2
              refine wp_region_later wr (by kernel_rfl) (by kernel_rfl) (by repeat (first | exact Below.refl _ _ | assumption | refine Below.alloc ?_ (by first | (simp; done) | (simp; omega) | omega) _ | refine Below.setCell ?_ (by first | (simp; done) | (simp; omega) | omega) _ | apply Below.drew | refine Below.trans ?_ (Below.mono (by assumption) (by first | (simp; done) | (simp; omega) | omega)))) ?_; (repeat (first | go_big_quiet_skip | (go_big_quiet_want; (first | ((fail); go_big_quiet_on; simp only [Act.put, List.setIfInBounds_toArray, List.set_cons_zero, List.set_cons_succ]) | (go_big_quiet_op; (first | go_big_quiet_on | go_big_quiet_call ((first | (go_at_call 95; exact unhide C1 _) | (go_at_call 102; exact unhide C2 _) | (go_at_call 96; exact unhide C3 _))))))))); refine wpQuiet_nil ?_
              intro w3 hw3
              have hop3 : Hid (opAt w3 w.heap.size z) := hide (fun i hi => (hw3.cell (p := ⟨w.heap.size, i, none⟩) hq0).trans ((unhide hop) i hi))
              have hB3 : Below w.heap.size w w3 := hBr.trans (hw3.mono (by omega))
              clear m0 m1 m2 m3 m4 m5 m6 m7 hw3
              go_wp2
              go_roundw
              case measure => simp [intOf]
              case rel => exact ⟨5, by omega, by go_num, hide (fun p h1 h2 => by
                by_cases e : p = 4
                · subst e; exact unhide HZ
                · exact unhide HK p (by omega) h2), hB3, hop3⟩
            · have hz2 : (z 5 != 0) = true := by simpa using hz
              have hres := unhide hf 4 (by omega) hm hz
              subst hres
              go_wp2
              refine wp_region_later wr (by kernel_rfl) (by kernel_rfl) (by repeat (first | exact Below.refl _ _ | assumption | refine Below.alloc ?_ (by first | (simp; done) | (simp; omega) | omega) _ | refine Below.setCell ?_ (by first | (simp; done) | (simp; omega) | omega) _ | apply Below.drew | refine Below.trans ?_ (Below.mono (by assumption) (by first | (simp; done) | (simp; omega) | omega)))) ?_; (repeat (first | go_big_quiet_skip | (go_big_quiet_want; (first | ((fail); go_big_quiet_on; simp only [Act.put, List.setIfInBounds_toArray, List.set_cons_zero, List.set_cons_succ]) | (go_big_quiet_op; (first | go_big_quiet_on | go_big_quiet_call ((first | (go_at_call 95; exact unhide C1 _) | (go_at_call 102; exact unhide C2 _) | (go_at_call 96; exact unhide C3 _))))))))); refine wpQuiet_nil ?_
              intro w3 hw3
              have hop3 : Hid (opAt w3 w.heap.size z) := hide (fun i hi => (hw3.cell (p := ⟨w.heap.size, i, none⟩) hq0).trans ((unhide hop) i hi))
              have hB3 : Below w.heap.size w w3 := hBr.trans (hw3.mono (by omega))
              clear m0 m1 m2 m3 m4 m5 m6 m7 hw3
              go_wp2
              go_ret
              exact ⟨rfl, hB3⟩
        · have C3 : Hid (∀ v : Later wr, Calls Try.prog 96 #[opV z, .int .u8 88] v.val fun e w'' => e = .returned (.int .i64 (z 6)) ∧ ∃ s' : Later wr, w'' = s'.val) := hide (fun v => later_call (refGet5_any z v.val))
          have C2 : Hid (∀ v : Later wr, Calls Try.prog 102 #[.string T, .int .u8 88] v.val fun e w'' => e = .returned (.bool (decide (5 ∈ L))) ∧ ∃ s' : Later wr, w'' = s'.val) := hide (fun v => later_same (unhide c2 5 (by omega) v.val))
          by_cases hm : 5 ∈ L
          · have hd : decide (5 ∈ L) = true := by simpa using hm
            rw [hd] at C2
            go_wp2
            refine wp_region_later wr (by kernel_rfl) (by kernel_rfl) (by repeat (first | exact Below.refl _ _ | assumption | refine Below.alloc ?_ (by first | (simp; done) | (simp; omega) | omega) _ | refine Below.setCell ?_ (by first | (simp; done) | (simp; omega) | omega) _ | apply Below.drew | refine Below.trans ?_ (Below.mono (by assumption) (by first | (simp; done) | (simp; omega) | omega)))) ?_; (repeat (first | go_big_quiet_skip | (go_big_quiet_want; (first | ((fail); go_big_quiet_on; simp only [Act.put, List.setIfInBounds_toArray, List.set_cons_zero, List.set_cons_succ]) | (go_big_quiet_op; (first | go_big_quiet_on | go_big_quiet_call ((first | (go_at_call 95; exact unhide C1 _) | (go_at_call 102; exact unhide C2 _) | (go_at_call 96; exact unhide C3 _))))))))); refine wpQuiet_nil ?_
            intro w3 hw3
            have hop3 : Hid (opAt w3 w.heap.size z) := hide (fun i hi => (hw3.cell (p := ⟨w.heap.size, i, none⟩) hq0).trans ((unhide hop) i hi))
            have hB3 : Below w.heap.size w w3 := hBr.trans (hw3.mono (by omega))
            clear m0 m1 m2 m3 m4 m5 m6 m7 hw3
            go_wp2
            go_roundw
            case measure => simp [intOf]
            case rel => exact ⟨6, by omega, by go_num, hide (fun p h1 h2 => by
              by_cases e : p = 5
              · subst e; exact absurd hm h2
              · exact unhide HK p (by omega) h2), hB3, hop3⟩
          · have hd : decide (5 ∈ L) = false := by simpa using hm
            rw [hd] at C2
            by_cases hz : z 6 = 0
            · have hz2 : (z 6 != 0) = false := by simpa using hz
              have HZ := hide hz
              clear hz
              go_wp2
              refine wp_region_later wr (by kernel_rfl) (by kernel_rfl) (by repeat (first | exact Below.refl _ _ | assumption | refine Below.alloc ?_ (by first | (simp; done) | (simp; omega) | omega) _ | refine Below.setCell ?_ (by first | (simp; done) | (simp; omega) | omega) _ | apply Below.drew | refine Below.trans ?_ (Below.mono (by assumption) (by first | (simp; done) | (simp; omega) | omega)))) ?_; (repeat (first | go_big_quiet_skip | (go_big_quiet_want; (first | ((fail); go_big_quiet_on; simp only [Act.put, List.setIfInBounds_toArray, List.set_cons_zero, List.set_cons_succ]) | (go_big_quiet_op; (first | go_big_quiet_on | go_big_quiet_call ((first | (go_at_call 95; exact unhide C1 _) | (go_at_call 102; exact unhide C2 _) | (go_at_call 96; exact unhide C3 _))))))))); refine wpQuiet_nil ?_
              intro w3 hw3
              have hop3 : Hid (opAt w3 w.heap.size z) := hide (fun i hi => (hw3.cell (p := ⟨w.heap.size, i, none⟩) hq0).trans ((unhide hop) i hi))
              have hB3 : Below w.heap.size w w3 := hBr.trans (hw3.mono (by omega))
              clear m0 m1 m2 m3 m4 m5 m6 m7 hw3
              go_wp2
              go_roundw
              case measure => simp [intOf]
              case rel => exact ⟨6, by omega, by go_num, hide (fun p h1 h2 => by
                by_cases e : p = 5
                · subst e; exact unhide HZ
                · exact unhide HK p (by omega) h2), hB3, hop3⟩
            · have hz2 : (z 6 != 0) = true := by simpa using hz
              have hres := unhide hf 5 (by omega) hm hz
              subst hres
              go_wp2
              refine wp_region_later wr (by kernel_rfl) (by kernel_rfl) (by repeat (first | exact Below.refl _ _ | assumption | refine Below.alloc ?_ (by first | (simp; done) | (simp; omega) | omega) _ | refine Below.setCell ?_ (by first | (simp; done) | (simp; omega) | omega) _ | apply Below.drew | refine Below.trans ?_ (Below.mono (by assumption) (by first | (simp; done) | (simp; omega) | omega)))) ?_; (repeat (first | go_big_quiet_skip | (go_big_quiet_want; (first | ((fail); go_big_quiet_on; simp only [Act.put, List.setIfInBounds_toArray, List.set_cons_zero, List.set_cons_succ]) | (go_big_quiet_op; (first | go_big_quiet_on | go_big_quiet_call ((first | (go_at_call 95; exact unhide C1 _) | (go_at_call 102; exact unhide C2 _) | (go_at_call 96; exact unhide C3 _))))))))); refine wpQuiet_nil ?_
              intro w3 hw3
              have hop3 : Hid (opAt w3 w.heap.size z) := hide (fun i hi => (hw3.cell (p := ⟨w.heap.size, i, none⟩) hq0).trans ((unhide hop) i hi))
              have hB3 : Below w.heap.size w w3 := hBr.trans (hw3.mono (by omega))
              clear m0 m1 m2 m3 m4 m5 m6 m7 hw3
              go_wp2
              go_ret
              exact ⟨rfl, hB3⟩
        · have C3 : Hid (∀ v : Later wr, Calls Try.prog 96 #[opV z, .int .u8 89] v.val fun e w'' => e = .returned (.int .i64 (z 7)) ∧ ∃ s' : Later wr, w'' = s'.val) := hide (fun v => later_call (refGet6_any z v.val))
          have C2 : Hid (∀ v : Later wr, Calls Try.prog 102 #[.string T, .int .u8 89] v.val fun e w'' => e = .returned (.bool (decide (6 ∈ L))) ∧ ∃ s' : Later wr, w'' = s'.val) := hide (fun v => later_same (unhide c2 6 (by omega) v.val))
          by_cases hm : 6 ∈ L
          · have hd : decide (6 ∈ L) = true := by simpa using hm
            rw [hd] at C2
            go_wp2
            refine wp_region_later wr (by kernel_rfl) (by kernel_rfl) (by repeat (first | exact Below.refl _ _ | assumption | refine Below.alloc ?_ (by first | (simp; done) | (simp; omega) | omega) _ | refine Below.setCell ?_ (by first | (simp; done) | (simp; omega) | omega) _ | apply Below.drew | refine Below.trans ?_ (Below.mono (by assumption) (by first | (simp; done) | (simp; omega) | omega)))) ?_; (repeat (first | go_big_quiet_skip | (go_big_quiet_want; (first | ((fail); go_big_quiet_on; simp only [Act.put, List.setIfInBounds_toArray, List.set_cons_zero, List.set_cons_succ]) | (go_big_quiet_op; (first | go_big_quiet_on | go_big_quiet_call ((first | (go_at_call 95; exact unhide C1 _) | (go_at_call 102; exact unhide C2 _) | (go_at_call 96; exact unhide C3 _))))))))); refine wpQuiet_nil ?_
            intro w3 hw3
            have hop3 : Hid (opAt w3 w.heap.size z) := hide (fun i hi => (hw3.cell (p := ⟨w.heap.size, i, none⟩) hq0).trans ((unhide hop) i hi))
            have hB3 : Below w.heap.size w w3 := hBr.trans (hw3.mono (by omega))
            clear m0 m1 m2 m3 m4 m5 m6 m7 hw3
            go_wp2
            go_roundw
            case measure => simp [intOf]
            case rel => exact ⟨7, by omega, by go_num, hide (fun p h1 h2 => by
              by_cases e : p = 6
              · subst e; exact absurd hm h2
              · exact unhide HK p (by omega) h2), hB3, hop3⟩
          · have hd : decide (6 ∈ L) = false := by simpa using hm
            rw [hd] at C2
            by_cases hz : z 7 = 0
            · have hz2 : (z 7 != 0) = false := by simpa using hz
              have HZ := hide hz
              clear hz
              go_wp2
              refine wp_region_later wr (by kernel_rfl) (by kernel_rfl) (by repeat (first | exact Below.refl _ _ | assumption | refine Below.alloc ?_ (by first | (simp; done) | (simp; omega) | omega) _ | refine Below.setCell ?_ (by first | (simp; done) | (simp; omega) | omega) _ | apply Below.drew | refine Below.trans ?_ (Below.mono (by assumption) (by first | (simp; done) | (simp; omega) | omega)))) ?_; (repeat (first | go_big_quiet_skip | (go_big_quiet_want; (first | ((fail); go_big_quiet_on; simp only [Act.put, List.setIfInBounds_toArray, List.set_cons_zero, List.set_cons_succ]) | (go_big_quiet_op; (first | go_big_quiet_on | go_big_quiet_call ((first | (go_at_call 95; exact unhide C1 _) | (go_at_call 102; exact unhide C2 _) | (go_at_call 96; exact unhide C3 _))))))))); refine wpQuiet_nil ?_
              intro w3 hw3
              have hop3 : Hid (opAt w3 w.heap.size z) := hide (fun i hi => (hw3.cell (p := ⟨w.heap.size, i, none⟩) hq0).trans ((unhide hop) i hi))
              have hB3 : Below w.heap.size w w3 := hBr.trans (hw3.mono (by omega))
              clear m0 m1 m2 m3 m4 m5 m6 m7 hw3
              go_wp2
              go_roundw
              case measure => simp [intOf]
              case rel => exact ⟨7, by omega, by go_num, hide (fun p h1 h2 => by
                by_cases e : p = 6
                · subst e; exact unhide HZ
                · exact unhide HK p (by omega) h2), hB3, hop3⟩
            · have hz2 : (z 7 != 0) = true := by simpa using hz
              have hres := unhide hf 6 (by omega) hm hz
              subst hres
              go_wp2
              refine wp_region_later wr (by kernel_rfl) (by kernel_rfl) (by repeat (first | exact Below.refl _ _ | assumption | refine Below.alloc ?_ (by first | (simp; done) | (simp; omega) | omega) _ | refine Below.setCell ?_ (by first | (simp; done) | (simp; omega) | omega) _ | apply Below.drew | refine Below.trans ?_ (Below.mono (by assumption) (by first | (simp; done) | (simp; omega) | omega)))) ?_; (repeat (first | go_big_quiet_skip | (go_big_quiet_want; (first | ((fail); go_big_quiet_on; simp only [Act.put, List.setIfInBounds_toArray, List.set_cons_zero, List.set_cons_succ]) | (go_big_quiet_op; (first | go_big_quiet_on | go_big_quiet_call ((first | (go_at_call 95; exact unhide C1 _) | (go_at_call 102; exact unhide C2 _) | (go_at_call 96; exact unhide C3 _))))))))); refine wpQuiet_nil ?_
              intro w3 hw3
              have hop3 : Hid (opAt w3 w.heap.size z) := hide (fun i hi => (hw3.cell (p := ⟨w.heap.size, i, none⟩) hq0).trans ((unhide hop) i hi))
              have hB3 : Below w.heap.size w w3 := hBr.trans (hw3.mono (by omega))
              clear m0 m1 m2 m3 m4 m5 m6 m7 hw3
              go_wp2
              go_ret
              exact ⟨rfl, hB3⟩
      · obtain rfl : j = 7 := by omega
        have hres := unhide ht (fun p hp hm => unhide HK p hp hm)
        subst hres
        go_wp2
        go_ret
        exact ⟨rfl, hBr⟩
  · have hbf : bareB z = false := bareB_no (fun h => hk h.1)
    rw [hbf]
    clear hbf
    by_cases h1 : z 0 < 1
    · go_enter Try.func94, Try.ntmps94
      go_wp2
      go_ret
      exact ⟨rfl, by repeat (first | exact Below.refl _ _ | assumption | refine Below.alloc ?_ (by first | (simp; done) | (simp; omega) | omega) _ | refine Below.setCell ?_ (by first | (simp; done) | (simp; omega) | omega) _ | apply Below.drew | refine Below.trans ?_ (Below.mono (by assumption) (by first | (simp; done) | (simp; omega) | omega)))⟩
    · have h2 : 11 < z 0 := by omega
      go_enter Try.func94, Try.ntmps94
      go_wp2
      go_ret
      exact ⟨rfl, by repeat (first | exact Below.refl _ _ | assumption | refine Below.alloc ?_ (by first | (simp; done) | (simp; omega) | omega) _ | refine Below.setCell ?_ (by first | (simp; done) | (simp; omega) | omega) _ | apply Below.drew | refine Below.trans ?_ (Below.mono (by assumption) (by first | (simp; done) | (simp; omega) | omega)))⟩
end Go.Proofs.Ytbkaopeajjechaa
