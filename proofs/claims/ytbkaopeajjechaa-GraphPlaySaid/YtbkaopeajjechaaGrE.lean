/- The walks of package op, further: bare, Check. -/
import Derived.Test.YtbkaopeajjechaaGrD
namespace Go.Proofs.Ytbkaopeajjechaa
set_option linter.unusedVariables false
set_option linter.unusedSimpArgs false
open Go.RowKit Go.Maps

theorem kindNo_any (n : Int) (h : n < 1 ∨ 11 < n) (w : World) :
    Calls Try.prog 81 #[.int .i64 n] w fun e w' => e = .returned (.tuple #[.agg #[.string { data := #[] }, .slice none 0 0], .bool false]) ∧ Below w.heap.size w w' := by
  rcases h with h | h
  · have g1 : n ≤ 0 := by omega
    go_enter Try.func81, Try.ntmps81
    go_wp2
    refine bodyPost_ret (v := .tuple #[.agg #[.string { data := #[] }, .slice none 0 0], .bool false]) (by simp only [results, Try.results81]; go_simp) rfl ?_
    exact ⟨rfl, by repeat (first | exact Below.refl _ _ | assumption | refine Below.alloc ?_ (by first | (simp; done) | (simp; omega) | omega) _ | refine Below.setCell ?_ (by first | (simp; done) | (simp; omega) | omega) _ | apply Below.drew | refine Below.trans ?_ (Below.mono (by assumption) (by first | (simp; done) | (simp; omega) | omega)))⟩
  · have g1 : ¬ n ≤ 0 := by omega
    go_enter Try.func81, Try.ntmps81
    go_wp2
    refine bodyPost_ret (v := .tuple #[.agg #[.string { data := #[] }, .slice none 0 0], .bool false]) (by simp only [results, Try.results81]; go_simp) rfl ?_
    exact ⟨rfl, by repeat (first | exact Below.refl _ _ | assumption | refine Below.alloc ?_ (by first | (simp; done) | (simp; omega) | omega) _ | refine Below.setCell ?_ (by first | (simp; done) | (simp; omega) | omega) _ | apply Below.drew | refine Below.trans ?_ (Below.mono (by assumption) (by first | (simp; done) | (simp; omega) | omega)))⟩

/-- The numbers with those that are named set to 0. -/
def zeroed (z : Nat → Int) (l : List Nat) : Nat → Int := l.foldl (fun z p => upd z (p + 1) 0) z
theorem zeroed_at : ∀ (l : List Nat) (z : Nat → Int) (i : Nat), zeroed z l i = if ∃ p ∈ l, p + 1 = i then 0 else z i
  | [], z, i => by simp [zeroed]
  | p :: l, z, i => by
    show zeroed (upd z (p + 1) 0) l i = _
    rw [zeroed_at l]
    by_cases h : ∃ q ∈ l, q + 1 = i
    · obtain ⟨q, hq, e⟩ := h
      rw [if_pos ⟨q, hq, e⟩, if_pos ⟨q, List.mem_cons_of_mem _ hq, e⟩]
    · rw [if_neg h]
      unfold upd
      by_cases e : i = p + 1
      · rw [if_pos e, if_pos ⟨p, List.mem_cons_self, e.symm⟩]
      · rw [if_neg e, if_neg]
        rintro ⟨q, hq, h2⟩
        rcases List.mem_cons.1 hq with rfl | hq
        · exact e h2.symm
        · exact h ⟨q, hq, h2⟩

def opAt (W : World) (b : Nat) (z : Nat → Int) : Prop := ∀ i, i < 8 → W.cell? ⟨b, i, none⟩ = some (.int .i64 (z i))

theorem nmL_lt {k p : Nat} (h : p ∈ nmL k) : p < 7 := by
  unfold nmL at h
  split at h <;> simp at h <;> omega

open Classical in
noncomputable def bareB (z : Nat → Int) : Bool := decide (bareP z)
theorem bareB_iff {z : Nat → Int} : bareB z = true ↔ bareP z := by unfold bareB; simp
theorem bareB_no {z : Nat → Int} (h : ¬ bareP z) : bareB z = false := by unfold bareB; simpa using h

set_option maxHeartbeats 4000000 in
set_option maxRecDepth 100000 in
theorem bare_any (z : Nat → Int) (w : World) :
    Calls Try.prog 52 #[opV z] w fun e w' => e = .returned (.bool (bareB z)) ∧ Below w.heap.size w w' := by
  by_cases hk : 1 ≤ z 0 ∧ z 0 ≤ 11
  · obtain ⟨k, hk0⟩ : ∃ k : Nat, z 0 = (k : Int) := ⟨(z 0).toNat, by omega⟩
    have c1 := hide (fun W => opOf_any k (by omega) (by omega) W)
    rw [← hk0] at c1
    have hL : Hid (∀ p ∈ nmL k, p < 7) := hide (fun p hp => nmL_lt hp)
    have hL4 : (nmL k).length ≤ 4 := by
      unfold nmL
      split <;> simp
    have e0 : zeroed z (nmL k) 0 = z 0 := by
      rw [zeroed_at, if_neg]
      rintro ⟨p, _, hp⟩
      omega
    have hkk : (z 0).toNat = k := by omega
    have ht : Hid ((∀ i, 1 ≤ i → i < 8 → zeroed z (nmL k) i = 0) → bareB z = true) := hide (fun h => by
      rw [bareB_iff]
      refine ⟨hk, fun p hp hn => ?_⟩
      have := h (p + 1) (by omega) (by omega)
      rw [zeroed_at, if_neg] at this
      · exact this
      · rintro ⟨q, hq, e⟩
        rw [hkk] at hn
        exact hn (by obtain rfl : q = p := by omega
                     exact hq))
    have hf : Hid (∀ i, 1 ≤ i → i < 8 → ¬ zeroed z (nmL k) i = 0 → bareB z = false) := hide (fun i h1 h2 h => by
      apply bareB_no
      rintro ⟨-, hh⟩
      rw [zeroed_at] at h
      split at h
      · exact h rfl
      · rename_i hne
        apply h
        have := hh (i - 1) (by omega) (by rw [hkk]; exact fun hm => hne ⟨i - 1, hm, by omega⟩)
        rwa [show i - 1 + 1 = i by omega] at this)
    clear hk0 hkk
    generalize nmL k = L at *
    generalize bareB z = R at *
    go_enter Try.func52, Try.ntmps52
    go_wp2_with fail
    refine (unhide c1 _).mono ?_
    rintro e w2 ⟨⟨A, rfl, hn⟩, hb2⟩
    have k0 := (hb2.cell (p := ⟨w.heap.size, 0, none⟩) (by simp)).trans (show _ = some (Value.int .i64 (z 0)) by go_simp)
    have k1 := (hb2.cell (p := ⟨w.heap.size, 1, none⟩) (by simp)).trans (show _ = some (Value.int .i64 (z 1)) by go_simp)
    have k2 := (hb2.cell (p := ⟨w.heap.size, 2, none⟩) (by simp)).trans (show _ = some (Value.int .i64 (z 2)) by go_simp)
    have k3 := (hb2.cell (p := ⟨w.heap.size, 3, none⟩) (by simp)).trans (show _ = some (Value.int .i64 (z 3)) by go_simp)
    have k4 := (hb2.cell (p := ⟨w.heap.size, 4, none⟩) (by simp)).trans (show _ = some (Value.int .i64 (z 4)) by go_simp)
    have k5 := (hb2.cell (p := ⟨w.heap.size, 5, none⟩) (by simp)).trans (show _ = some (Value.int .i64 (z 5)) by go_simp)
    have k6 := (hb2.cell (p := ⟨w.heap.size, 6, none⟩) (by simp)).trans (show _ = some (Value.int .i64 (z 6)) by go_simp)
    have k7 := (hb2.cell (p := ⟨w.heap.size, 7, none⟩) (by simp)).trans (show _ = some (Value.int .i64 (z 7)) by go_simp)
    have hz := hb2.size
    simp only [World.size_alloc] at hz
    have k8 : w.heap.size < w2.heap.size := by omega
    have hB2 : Hid (Below w.heap.size w w2) := hide (by repeat (first | exact Below.refl _ _ | assumption | refine Below.alloc ?_ (by first | (simp; done) | (simp; omega) | omega) _ | refine Below.setCell ?_ (by first | (simp; done) | (simp; omega) | omega) _ | apply Below.drew | refine Below.trans ?_ (Below.mono (by assumption) (by first | (simp; done) | (simp; omega) | omega))))
    clear hb2
    go_wp2_with fail
    have HN := hide hn
    clear hn
    go_loopw [21] (fun i wr => ∃ j : Nat, j ≤ L.length ∧ i = .int .i64 j ∧ Hid (Rest wr (w2.heap.size + 1) (zeroed z (L.take j))) ∧ Below w2.heap.size w2 wr) (fun i _ => L.length - (intOf i).toNat)
    case atStart =>
      refine ⟨0, Nat.zero_le _, rfl, hide (fun i hi => ?_), by repeat (first | exact Below.refl _ _ | assumption | refine Below.alloc ?_ (by first | (simp; done) | (simp; omega) | omega) _ | refine Below.setCell ?_ (by first | (simp; done) | (simp; omega) | omega) _ | apply Below.drew | refine Below.trans ?_ (Below.mono (by assumption) (by first | (simp; done) | (simp; omega) | omega)))⟩
      rcases i with _ | _ | _ | _ | _ | _ | _ | _ | i
      all_goals first | omega | (refine ⟨?_, ?_⟩ <;> go_simp <;> rfl)
    case round =>
      obtain ⟨j, hj, rfl, hR, hBr⟩ := hrel
      have hzr := hBr.size
      have m0 := (hBr.cell (p := ⟨w.heap.size, 0, none⟩) k8).trans k0
      have m1 := (hBr.cell (p := ⟨w.heap.size, 1, none⟩) k8).trans k1
      have m2 := (hBr.cell (p := ⟨w.heap.size, 2, none⟩) k8).trans k2
      have m3 := (hBr.cell (p := ⟨w.heap.size, 3, none⟩) k8).trans k3
      have m4 := (hBr.cell (p := ⟨w.heap.size, 4, none⟩) k8).trans k4
      have m5 := (hBr.cell (p := ⟨w.heap.size, 5, none⟩) k8).trans k5
      have m6 := (hBr.cell (p := ⟨w.heap.size, 6, none⟩) k8).trans k6
      have m7 := (hBr.cell (p := ⟨w.heap.size, 7, none⟩) k8).trans k7
      by_cases hlt : j < L.length
      · obtain ⟨b, rfl, hbl, hbc⟩ := (unhide HN).keep hBr (by omega)
        have hcell := hbc j L[j] (List.getElem?_eq_getElem hlt)
        have hp7 : L[j] < 7 := unhide hL _ (List.getElem_mem hlt)
        have hpa := fun W => parts_at L[j] hp7 W
        have c2 := hide (fun W => parts_any W)
        have c3 := hide (fun W (z' : Nat → Int) (HR : Rest W (w2.heap.size + 1) z') => set_any L[j] hp7 0 (w2.heap.size + 1) z' W HR)
        clear hbc
        have b0 : (0 : Int) ≤ (j : Int) := by omega
        have b1 : (j : Int) < (L.length : Int) := by omega
        have hnx : Hid (zeroed z (L.take (j + 1)) = upd (zeroed z (L.take j)) (L[j] + 1) 0) := hide (by
          unfold zeroed
          rw [List.take_succ_eq_append_getElem hlt, List.foldl_append]
          rfl)
        generalize L[j] = pj at *
        go_wp2_with fail
        refine (unhide c2 _).mono ?_
        rintro e w3 ⟨rfl, hb3⟩
        have HR3 := hide ((unhide hR).keep hb3)
        go_wp2_with fail
        refine (unhide c3 _ _ (unhide HR3)).mono ?_
        rintro e w4 ⟨rfl, hR4, hch⟩
        have HR4 := hide hR4
        clear hR4
        have hB4 : Below w2.heap.size w2 w4 := (hBr.trans (hb3.mono hzr)).trans (hch.below (by rintro i rfl; omega) (by have := hb3.size; omega))
        go_wp2
        go_roundw
        case measure => simp [intOf]; omega
        case rel => exact ⟨j + 1, by omega, by go_num, by rw [unhide hnx]; exact HR4, hB4⟩
      · obtain rfl : j = L.length := by omega
        have hlast := unhide hR
        rw [List.take_length] at hlast
        have r0 := (hlast 0 (by omega)).1
        have r1 := (hlast 1 (by omega)).1
        have r2 := (hlast 2 (by omega)).1
        have r3 := (hlast 3 (by omega)).1
        have r4 := (hlast 4 (by omega)).1
        have r5 := (hlast 5 (by omega)).1
        have r6 := (hlast 6 (by omega)).1
        have r7 := (hlast 7 (by omega)).1
        rw [e0] at r0
        clear hlast hR e0
        have hRET : Hid (Below w.heap.size w wr) := hide ((unhide hB2).trans (hBr.mono (by omega)))
        generalize hy1 : zeroed z L 1 = y1 at *
        generalize hy2 : zeroed z L 2 = y2 at *
        generalize hy3 : zeroed z L 3 = y3 at *
        generalize hy4 : zeroed z L 4 = y4 at *
        generalize hy5 : zeroed z L 5 = y5 at *
        generalize hy6 : zeroed z L 6 = y6 at *
        generalize hy7 : zeroed z L 7 = y7 at *
        have ht2 : Hid (y1 = 0 ∧ y2 = 0 ∧ y3 = 0 ∧ y4 = 0 ∧ y5 = 0 ∧ y6 = 0 ∧ y7 = 0 → R = true) := hide (fun ⟨q1, q2, q3, q4, q5, q6, q7⟩ => unhide ht (fun i h1 h2 => by
          obtain rfl | rfl | rfl | rfl | rfl | rfl | rfl : i = 1 ∨ i = 2 ∨ i = 3 ∨ i = 4 ∨ i = 5 ∨ i = 6 ∨ i = 7 := by omega
          · rw [hy1]; exact q1
          · rw [hy2]; exact q2
          · rw [hy3]; exact q3
          · rw [hy4]; exact q4
          · rw [hy5]; exact q5
          · rw [hy6]; exact q6
          · rw [hy7]; exact q7))
        have hf2 : Hid (¬ (y1 = 0 ∧ y2 = 0 ∧ y3 = 0 ∧ y4 = 0 ∧ y5 = 0 ∧ y6 = 0 ∧ y7 = 0) → R = false) := hide (fun h => Classical.byContradiction fun hR => h
          ⟨Classical.byContradiction fun q => hR (unhide hf 1 (by omega) (by omega) (by rw [hy1]; exact q)), Classical.byContradiction fun q => hR (unhide hf 2 (by omega) (by omega) (by rw [hy2]; exact q)),
            Classical.byContradiction fun q => hR (unhide hf 3 (by omega) (by omega) (by rw [hy3]; exact q)), Classical.byContradiction fun q => hR (unhide hf 4 (by omega) (by omega) (by rw [hy4]; exact q)),
            Classical.byContradiction fun q => hR (unhide hf 5 (by omega) (by omega) (by rw [hy5]; exact q)), Classical.byContradiction fun q => hR (unhide hf 6 (by omega) (by omega) (by rw [hy6]; exact q)),
            Classical.byContradiction fun q => hR (unhide hf 7 (by omega) (by omega) (by rw [hy7]; exact q))⟩)
        clear ht hf hy1 hy2 hy3 hy4 hy5 hy6 hy7 c1 hL
        have HB := hide hBr
        clear hBr
        by_cases hall : y1 = 0 ∧ y2 = 0 ∧ y3 = 0 ∧ y4 = 0 ∧ y5 = 0 ∧ y6 = 0 ∧ y7 = 0
        · have hres := unhide ht2 hall
          subst hres
          obtain ⟨rfl, rfl, rfl, rfl, rfl, rfl, rfl⟩ := hall
          clear ht2 hf2
          go_wp2
          go_ret
          exact ⟨rfl, unhide hRET⟩
        · have hres := unhide hf2 hall
          subst hres
          clear ht2 hf2
          go_wp2
          all_goals first | (exfalso; apply hall; simp_all; done) | (go_ret; exact ⟨rfl, unhide hRET⟩)
  · have hbf : bareB z = false := by
      unfold bareB
      rw [decide_eq_false_iff_not]
      exact fun h => hk h.1
    have c1 := hide (fun W => kindNo_any (z 0) (by omega) W)
    rw [hbf]
    clear hbf
    go_enter Try.func52, Try.ntmps52
    go_wp2_with fail
    refine (unhide c1 _).mono ?_
    rintro e w2 ⟨rfl, hb2⟩
    have hz := hb2.size
    simp only [World.size_alloc] at hz
    go_wp2
    go_ret
    exact ⟨rfl, by repeat (first | exact Below.refl _ _ | assumption | refine Below.alloc ?_ (by first | (simp; done) | (simp; omega) | omega) _ | refine Below.setCell ?_ (by first | (simp; done) | (simp; omega) | omega) _ | apply Below.drew | refine Below.trans ?_ (Below.mono (by assumption) (by first | (simp; done) | (simp; omega) | omega)))⟩
end Go.Proofs.Ytbkaopeajjechaa
