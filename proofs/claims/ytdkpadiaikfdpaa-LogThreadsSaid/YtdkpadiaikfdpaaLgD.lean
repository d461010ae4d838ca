/- The walk of package log: which steps change a word, step by step. -/
import Derived.Test.YtdkpadiaikfdpaaLgA
import Derived.Test.YtdkpadiaikfdpaaRf
namespace Go.Proofs.Ytdkpadiaikfdpaa
set_option linter.unusedVariables false
set_option linter.unusedSimpArgs false
open Go.RowKit

/-- What a step of Changes leaves. -/
def ChgTo (w w' : World) (po n₀ : Nat) (L : List Int) (e : Ending) : Prop :=
  ∃ r v', e = .returned r ∧ w'.cell? ⟨po, 0, none⟩ = some v' ∧ w'.frozen? ⟨po, 0, none⟩ = false ∧ w'.ownsRow n₀ 3 1 v' L.length (L.map (.int .i64)) ∧ KeptBut n₀ po w w' ∧ (∀ B, B ≤ po → Below B w w')

set_option maxHeartbeats 4000000 in
theorem chg1_any (pl po n₀ bs os len cap : Nat) (st : Nat → Nat → Int) (i : Nat) (hi : i < len) (hlen : len ≤ 9223372036854775807) (was : Int) (v : Value) (L : List Int) (hL : L.length ≤ 1000) (w : World)
    (cl : w.cell? ⟨pl, 0, none⟩ = some (.slice (some ⟨bs, os, none⟩) len cap)) (co : w.cell? ⟨po, 0, none⟩ = some v) (fo : w.frozen? ⟨po, 0, none⟩ = false) (hpl : pl < n₀) (hpo : po < n₀) (hn₀ : n₀ ≤ w.heap.size) (hne : pl ≠ po)
    (hbs : bs < w.heap.size) (hS : StOk w (some ⟨bs, os, none⟩) len st) (ho : w.ownsRow n₀ 3 1 v L.length (L.map (.int .i64))) :
    Calls Try.prog 33 #[.int .i64 (i : Int), .int .u64 was, .pointer (some ⟨pl, 0, none⟩), .pointer (some ⟨po, 0, none⟩)] w fun e w' => ChgTo w w' po n₀ (if stoB (st i 1) (st i 3) (st i 5) && (st i 4 != was) then L ++ [(i : Int)] else L) e := by
  obtain ⟨b', o', e', _, hc⟩ := hS (by omega)
  obtain ⟨rfl, rfl⟩ : bs = b' ∧ os = o' := by
    injection e' with e'
    injection e' with e1 e2 _
    exact ⟨e1, e2⟩
  obtain ⟨c0, c1, c2, c3, c4, c5⟩ := hc i hi
  clear hc e' hS
  have HO := hide ho
  clear ho
  have b0 : (0 : Int) ≤ (i : Int) := by omega
  have b1 : (i : Int) < (len : Int) := by omega
  have q := stores_any (st i 0) (st i 1) (st i 2) (st i 3) (st i 4) (st i 5) w
  obtain ⟨i0, hi0, hz0, hz1, hz2⟩ := info_parts info_int13
  have hposz : po < w.heap.size := by omega
  have hplsz : pl < w.heap.size := by omega
  cases hs : stoB (st i 1) (st i 3) (st i 5) with
  | false =>
    rw [hs] at q
    simp only [Bool.false_and, Bool.false_eq_true, if_false]
    have HQ := hide q
    clear q hs
    go_enter Try.func33, Try.ntmps33
    go_wp2_with fail
    refine (unhide HQ).mono ?_
    rintro e w1 ⟨rfl, hw1⟩; obtain ⟨hcw1, hfw1⟩ := bcell hw1; (try (simp only [World.size_drew, World.cell?_drew, World.frozen?_drew] at hcw1 hfw1)); have hzw1 := hw1.size; (try (simp only [World.size_alloc, World.size_setCell, World.size_drew] at hzw1)); (try (have hzw1_w_0 : w.heap.size < w1.heap.size := by omega)); (try (have hzw1_w_1 : w.heap.size + 1 < w1.heap.size := by omega)); (try (have hzw1_w_2 : w.heap.size + 1 + 1 < w1.heap.size := by omega)); (try (have hzw1_w_3 : w.heap.size + 1 + 1 + 1 < w1.heap.size := by omega)); (try (have hyw1_w : w.heap.size ≤ w1.heap.size := by omega)); (try (have hyw1_wa : w.heap.size + 1 ≤ w1.heap.size := by omega))
    go_wp2
    go_end0
    exact ⟨_, v, rfl, by go_simp, by go_simp, ownsRow_below (unhide HO) hw1, KeptBut.below hw1 hn₀, fun B hB => hw1.mono (by omega)⟩
  | true =>
    rw [hs] at q
    simp only [Bool.true_and]
    have HQ := hide q
    clear q hs
    by_cases hw : st i 4 = was
    · have hwb : (st i 4 != was) = false := by simp [hw]
      have HW := hide hwb
      clear hw
      go_enter Try.func33, Try.ntmps33
      go_wp2_with fail
      refine (unhide HQ).mono ?_
      rintro e w1 ⟨rfl, hw1⟩; obtain ⟨hcw1, hfw1⟩ := bcell hw1; (try (simp only [World.size_drew, World.cell?_drew, World.frozen?_drew] at hcw1 hfw1)); have hzw1 := hw1.size; (try (simp only [World.size_alloc, World.size_setCell, World.size_drew] at hzw1)); (try (have hzw1_w_0 : w.heap.size < w1.heap.size := by omega)); (try (have hzw1_w_1 : w.heap.size + 1 < w1.heap.size := by omega)); (try (have hzw1_w_2 : w.heap.size + 1 + 1 < w1.heap.size := by omega)); (try (have hzw1_w_3 : w.heap.size + 1 + 1 + 1 < w1.heap.size := by omega)); (try (have hyw1_w : w.heap.size ≤ w1.heap.size := by omega)); (try (have hyw1_wa : w.heap.size + 1 ≤ w1.heap.size := by omega))
      go_wp2
      go_end0
      refine ⟨_, v, rfl, by go_simp, by go_simp, ?_, KeptBut.below hw1 hn₀, fun B hB => hw1.mono (by omega)⟩
      exact ownsRow_below (unhide HO) hw1
    · have hwb : (st i 4 != was) = true := by simpa using hw
      have HW := hide hwb
      clear hw
      go_enter Try.func33, Try.ntmps33
      go_wp2_with fail
      refine (unhide HQ).mono ?_
      rintro e w1 ⟨rfl, hw1⟩; obtain ⟨hcw1, hfw1⟩ := bcell hw1; (try (simp only [World.size_drew, World.cell?_drew, World.frozen?_drew] at hcw1 hfw1)); have hzw1 := hw1.size; (try (simp only [World.size_alloc, World.size_setCell, World.size_drew] at hzw1)); (try (have hzw1_w_0 : w.heap.size < w1.heap.size := by omega)); (try (have hzw1_w_1 : w.heap.size + 1 < w1.heap.size := by omega)); (try (have hzw1_w_2 : w.heap.size + 1 + 1 < w1.heap.size := by omega)); (try (have hzw1_w_3 : w.heap.size + 1 + 1 + 1 < w1.heap.size := by omega)); (try (have hyw1_w : w.heap.size ≤ w1.heap.size := by omega)); (try (have hyw1_wa : w.heap.size + 1 ≤ w1.heap.size := by omega))
      have HO1 := hide (ownsRow_below (unhide HO) hw1)
      go_wp2_with (at_builtin; refine wpList_append_lies _ rfl (.tmp 21) (.tmp 23) _ rfl n₀ 3 i0 (.int .i64 0) 1 8 Try.underlying31 hi0 hz0 hz1 hz2 rfl (by decide) _ _ _ rfl ((unhide HO1).alloc _) ⟨w1.heap.size, 0, none⟩ 1 1 [.int .i64 (i : Int)] rfl rfl ?c1 ?c2 (by decide) ?c3 ?c4 ?c5 _ rfl ?_)
      case c1 => exact one_new _ _ _
      case c2 => simp [Value.oneCell']
      case c3 => simp only [maxLen]; omega
      case c4 => omega
      case c5 => simp; omega
      intro g c w3 hown hgrow hat hlt
      have hb3 : Below n₀ w w3 := (((hw1.mono hn₀)).alloc (by omega) _).grown hgrow (by simp; omega) (fun r hr => ((unhide HO1).lt r hr).1)
      have d1 := (hb3.cell (p := ⟨po, 0, none⟩) hpo).trans co
      have d2 := (hb3.frozen (p := ⟨po, 0, none⟩) hpo).trans fo
      have HO3 := hide hown
      have hgn : n₀ ≤ g := (hown.lt g rfl).1
      clear hown hgrow hat
      go_wp2
      go_end0
      refine ⟨_, _, rfl, World.cell?_setCell_same _ _ _ d1, by rw [World.frozen?_setCell]; exact d2, ?_, ?_, fun B hB => (hb3.mono (by omega)).setCell (p := ⟨po, 0, none⟩) hB _⟩
      · skip
        have k1 := unhide HO3
        have k2 := ownsRow_setCell_below k1 (a := ⟨po, 0, none⟩) hpo (.slice (some ⟨g, 0, none⟩) (L.length + 1) c)
        simpa using k2
      · exact (KeptBut.below hb3 (Nat.le_refl _)).trans ⟨by simp [World.setCell], fun j _ hj => Below.heap_setCell w3 _ _ j (fun e => hj (by simpa using e))⟩
end Go.Proofs.Ytdkpadiaikfdpaa
