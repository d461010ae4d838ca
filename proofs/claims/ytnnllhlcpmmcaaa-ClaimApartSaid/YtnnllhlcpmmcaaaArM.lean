/- The walks of package arena: a copy of an arena. -/
import Derived.Test.YtnnllhlcpmmcaaaArI
import Derived.Test.YtnnllhlcpmmcaaaArN
import Derived.Test.YtnnllhlcpmmcaaaArD
namespace Go.Proofs.Ytnnllhlcpmmcaaa
set_option linter.unusedVariables false
set_option linter.unusedSimpArgs false
open Go.RowKit Go.Shelf

attribute [local go_sem] Oper.semAt_some

set_option maxRecDepth 100000 in
set_option maxHeartbeats 4000000 in
theorem copy_any (g h m : Nat) (xs : Nat → Int) (w : World) (H : IsAr w g h m xs) :
    Calls Try.prog 35 #[.pointer (some ⟨g, 0, none⟩)] w fun e w' => ∃ g2 h2, e = .returned (.pointer (some ⟨g2, 0, none⟩)) ∧ Below w.heap.size w w' ∧ w.heap.size ≤ g2 ∧ w.heap.size ≤ h2 ∧ IsAr w' g2 h2 m xs := by
  have HI := hide H
  clear H
  refine (callsIn_wide (n := 6)).1 ?_
  refine callsIn_of_wp_marks Try.func35 rfl trivial ?_ rfl
  simp only [Try.ntmps35, List.size_toArray, List.length_cons, List.length_nil, Nat.reduceAdd, Nat.reduceSub, Array.replicate_succ, Array.replicate_zero, List.push_toArray, List.append_toArray, List.nil_append, List.cons_append]
  gi_wp2
  refine ⟨trivial, ?_⟩
  refine (callsIn_wide.2 (none_any g h m xs w (unhide HI))).mono ?_
  rintro e w1 ⟨rfl, hb1⟩
  have hs1 := hb1.size
  have HI1 := hide ((unhide HI).keep hb1)
  gi_wp2
  refine ⟨trivial, ?_⟩
  refine (callsIn_wide.2 (len_any g h m xs w1 (unhide HI1))).mono ?_
  rintro e w2 ⟨rfl, hb2⟩
  have hs2 := hb2.size
  have HI2 := hide ((unhide HI1).keep hb2)
  have hm : 1 ≤ m ∧ m ≤ 16384 := (unhide HI).2.2.2.2.1
  gi_wp2
  refine ⟨trivial, ?_⟩
  refine (callsIn_wide.2 (new_yes m hm.1 hm.2 w2)).mono ?_
  rintro e w3 ⟨g2, h2, rfl, hb3, hg2, hh2, HN⟩
  have hs3 := hb3.size
  have HN := hide HN
  have HI3 := hide ((unhide HI2).keep hb3)
  gi_wp2
  refine ⟨trivial, ?_⟩
  refine (callsIn_wide.2 (all_any _ ⟨_, rfl⟩ _)).mono ?_
  rintro e w4 ⟨rfl, hE⟩
  have c4 : w4.cell? ⟨w3.heap.size + 1, 0, none⟩ = some (.pointer (some ⟨g, 0, none⟩)) := by subst hE; go_simp
  have cc : w4.cell? ⟨w3.heap.size, 0, none⟩ = some (.pointer (some ⟨g2, 0, none⟩)) := by subst hE; go_simp
  have hs4 : w3.heap.size + 2 ≤ w4.heap.size := by rw [← hE]; simp
  have hb4 : Below w3.heap.size w3 w4 := by
    rw [← hE]
    repeat (first | exact Below.refl _ _ | assumption | refine Below.alloc ?_ (by first | (simp; done) | (simp; omega) | omega) _ | refine Below.setCell ?_ (by first | (simp; done) | (simp; omega) | omega) _ | apply Below.drew | refine Below.trans ?_ (Below.mono (by assumption) (by first | (simp; done) | (simp; omega) | omega)))
  have HI4 := hide ((unhide HI3).keep hb4)
  have HN4 := hide ((unhide HN).keep hb4)
  clear hE
  gi_wp2
  have hgw : g < w.heap.size := (unhide HI).2.1
  have hhw : h < w.heap.size := (unhide HI).2.2.1
  have hg3 : g2 < w3.heap.size := (unhide HN).2.1
  have hh3 : h2 < w3.heap.size := (unhide HN).2.2.1
  have hgh : g2 ≠ h2 := (unhide HN).2.2.2.1
  have hB4 : Below w2.heap.size w2 w4 := hb3.trans (hb4.mono hs3)
  refine wpIn_rangeFunc_ownG rfl (by omega) (gf := 69) (lb := #[.pointer (some ⟨w3.heap.size + 1, 0, none⟩)]) rfl trivial (enters_of Try.func69 (by kernel_rfl) rfl)
    (all_stopsF 5 (by omega) g h m (w3.heap.size + 1) xs w4.heap.size w4 (unhide HI4) (by omega) (by omega) (by omega) (Nat.le_refl _) h2 (by omega) (by omega) (by omega) c4)
    KeepBut.trans (fun W l o o' hl hh _ _ => ⟨by simp [World.putObj], fun i hi _ => by simp [World.putObj, Array.getElem?_setIfInBounds, show l ≠ i by omega]⟩) (Below.refl _ _) (fun _ => rfl)
    (fun ys W => ((∀ i, i < m → ∃ v, (W.cell? ⟨h2, i, none⟩ = some (.int .u64 v) ∧ W.frozen? ⟨h2, i, none⟩ = false) ∧ ∀ q : Fin m, q.val = i → q ∈ ys → v = xs i) ∧
      W.cell? ⟨g2, 0, none⟩ = some (.slice (some ⟨h2, 0, none⟩) m m) ∧ W.cell? ⟨w3.heap.size, 0, none⟩ = some (.pointer (some ⟨g2, 0, none⟩))) ∧ Below w2.heap.size w2 W)
    (fun _ _ _ => False)
    (OwnFrom.and (Own.from (fun s A B row hs hgr hr => ⟨fun i hi => by
      obtain ⟨v, ⟨a1, a2⟩, a3⟩ := hs.1 i hi
      exact ⟨v, ⟨cell_kept a1 hgr hr, (frozen_kept a1 hgr hr).trans a2⟩, a3⟩, cell_kept hs.2.1 hgr hr, cell_kept hs.2.2 hgr hr⟩) _) (ownFrom_below (Nat.le_refl _) (by omega)))
    (fun _ _ _ _ _ hs _ _ => hs)
    ⟨⟨fun i hi => ⟨0, (unhide HN4).2.2.2.2.2 i hi, fun q _ h => by cases h⟩, (unhide HN4).1, cc⟩, hB4⟩
    (fun x => { tmps := #[Value.pointer (some ⟨g, 0, none⟩), undef, Value.pointer none, Value.pointer (some ⟨w3.heap.size, 0, none⟩), Value.int .i64 0, Value.int .i64 (x.val : Int), Value.int .u64 (xs x.val), Value.pointer (some ⟨g, 0, none⟩), Value.bool false, Value.tuple #[.pointer (some ⟨g2, 0, none⟩), .int .i64 0], Value.pointer (some ⟨g, 0, none⟩), Value.int .i64 (m : Int), Value.tuple #[.pointer (some ⟨g2, 0, none⟩), .int .i64 0], Value.pointer (some ⟨g2, 0, none⟩), Value.int .i64 0, Value.pointer (some ⟨g, 0, none⟩), Value.func (.func 69) #[] #[.pointer (some ⟨w3.heap.size + 1, 0, none⟩)], Value.int .i64 (x.val : Int), Value.int .u64 (xs x.val), undef, undef, undef, undef, undef, undef, undef, undef, undef], defers := [] }) ?assign ?body ?done (fun D c pre W _ _ h _ => h.elim)
  case assign =>
    intro l x W K hK
    gi_wp2
    exact hK
  case body =>
    rintro l ys x W ⟨⟨i1, i2, i3⟩, hB⟩ _
    obtain ⟨v0, ⟨j1, j2⟩, j3⟩ := i1 x.val x.isLt
    have HH := hide i1
    have b0 : (0 : Int) ≤ (x.val : Int) := by omega
    have b1 : (x.val : Int) < (m : Int) := by have := x.isLt; omega
    clear i1 j3
    gi_wp2
    refine ⟨(KeepsOthers.setCell _ _ _).from _, ⟨by simp [World.setCell], fun i _ hne => Below.heap_setCell W _ _ i (fun e => hne (by simpa using e))⟩, ⟨⟨fun i hi => ?_, ?_, ?_⟩, hB.setCell (p := ⟨h2, x.val, none⟩) (by show w2.heap.size ≤ h2; omega) _⟩⟩
    · by_cases e : i = x.val
      · subst e
        exact ⟨xs x.val, ⟨World.cell?_setCell_same _ _ _ j1, by rw [World.frozen?_setCell]; exact j2⟩, fun _ _ _ => rfl⟩
      · obtain ⟨v, ⟨a1, a2⟩, a3⟩ := unhide HH i hi
        refine ⟨v, ⟨?_, by rw [World.frozen?_setCell]; exact a2⟩, fun q hq hm => ?_⟩
        · rw [World.cell?_setCell_other _ _ _ _ (fun k => e (by injection k with _ k _; first | exact k | exact k.symm))]
          exact a1
        · rcases List.mem_append.1 hm with hm | hm
          · exact a3 q hq hm
          · exact absurd (by rw [← hq, List.mem_singleton.1 hm]) e
    · rw [World.cell?_setCell_other _ _ _ _ (fun k => by injection k with k _ _; omega)]
      exact i2
    · rw [World.cell?_setCell_other _ _ _ _ (fun k => by injection k with k _ _; omega)]
      exact i3
  case done =>
    rintro D ys W hD hys ⟨⟨i1, i2, i3⟩, hB⟩ hK
    have HH := hide i1
    clear i1
    have hwD : w2.heap.size ≤ D := by omega
    gi_wp2
    refine ⟨by simp, .inl ⟨_, _, rfl, run_takeDeferred hK, ?_⟩⟩
    have hP : Below w4.heap.size W (W.putObj D (.deferred none)) := belowK_b (w := w4) (Nat.le_refl _) W D _ _ hD hK rfl rfl
    have hWs : W.heap.size ≤ (W.putObj D (.deferred none)).heap.size := hP.size
    refine ⟨_, results_tmp rfl _ _ _, g2, h2, rfl, ((hb1.trans (hb2.mono hs1)).trans ((hB.trans (hP.mono (by omega))).mono (by omega))), by omega, by omega, ?_⟩
    refine ⟨(hP.cell (p := ⟨g2, 0, none⟩) (by show g2 < _; omega)).trans i2, ?_, ?_, hgh, hm, fun i hi => ?_⟩
    · have := hB.size
      have := (Array.getElem?_eq_some_iff.1 hK).1
      omega
    · have := (Array.getElem?_eq_some_iff.1 hK).1
      omega
    · obtain ⟨v, ⟨a1, a2⟩, a3⟩ := unhide HH i hi
      obtain rfl := a3 ⟨i, hi⟩ rfl (hys _)
      exact ⟨(hP.cell (p := ⟨h2, i, none⟩) (by show h2 < _; omega)).trans a1, (hP.frozen (p := ⟨h2, i, none⟩) (by show h2 < _; omega)).trans a2⟩
end Go.Proofs.Ytnnllhlcpmmcaaa
