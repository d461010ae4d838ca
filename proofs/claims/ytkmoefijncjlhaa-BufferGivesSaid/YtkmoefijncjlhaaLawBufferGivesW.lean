/- The walk of BufferGives: it returns true. -/
import Derived.Test.YtkmoefijncjlhaaByI
namespace Go.Proofs.Ytkmoefijncjlhaa
set_option linter.unusedVariables false
set_option linter.unusedSimpArgs false
open Go.RowKit

set_option maxRecDepth 100000 in
set_option maxHeartbeats 4000000 in
theorem bufferGives_walk (t : Int) (_ : (Lit.int .i64 t).wf = true) (sp : Int) (_ : (Lit.int .i64 sp).wf = true) (A : Option Addr) (len cap : Nat) (s : Int) (_ : (Lit.int .i64 s).wf = true) (a : Int) (hwa : (Lit.int .i64 a).wf = true) (l : Int) (hwl : (Lit.int .i64 l).wf = true) (e : Int) (_ : (Lit.int .i64 e).wf = true) (ca : Int) (hwca : (Lit.int .i64 ca).wf = true) (cg : Int) (_ : (Lit.int .i64 cg).wf = true) (n : Int) (_ : (Lit.int .i64 n).wf = true) (w : World) (hr : RowOk w 5 [.str] A len cap) :
    Calls Try.prog 5 #[.agg #[.int .i64 t, .int .i64 sp, .slice A len cap], .agg #[.int .i64 s, .int .i64 a, .int .i64 l], .agg #[.int .i64 e, .int .i64 ca, .int .i64 cg], .int .i64 n] w fun ed w' => ed = .returned (.bool true) ∧ Below w.heap.size w w' := by
  have hm := hr.1
  have hm2 := hr.2.1
  unfold maxLen at hm2
  obtain ⟨S, H, hS⟩ := ShOk.of_row hr
  have cf := hide (fun W (hW : Below w.heap.size w W) => few_any t sp A len cap S (by omega) W (H.keep hW) hS)
  clear hr
  cases ef : fewB len S with
  | false =>
    rw [ef] at cf
    clear ef H hS
    go_enter Try.func5, Try.ntmps5
    go_wp2_with fail
    refine (unhide cf _ (by repeat (first | exact Below.refl _ _ | assumption | refine Below.alloc ?_ (by first | (simp; done) | (simp; omega) | omega) _ | refine Below.setCell ?_ (by first | (simp; done) | (simp; omega) | omega) _ | apply Below.drew | refine Below.trans ?_ (Below.mono (by assumption) (by first | (simp; done) | (simp; omega) | omega))))).mono ?_
    rintro e w1 ⟨rfl, hw1⟩; obtain ⟨hcw1, hfw1⟩ := bcell hw1; (try (simp only [World.size_drew, World.cell?_drew, World.frozen?_drew] at hcw1 hfw1)); have hzw1 := hw1.size; (try (simp only [World.size_alloc, World.size_setCell, World.size_drew] at hzw1)); (try (have hzw1_w_0 : w.heap.size < w1.heap.size := by omega)); (try (have hzw1_w_1 : w.heap.size + 1 < w1.heap.size := by omega)); (try (have hzw1_w_2 : w.heap.size + 1 + 1 < w1.heap.size := by omega)); (try (have hzw1_w_3 : w.heap.size + 1 + 1 + 1 < w1.heap.size := by omega)); (try (have hyw1_w : w.heap.size ≤ w1.heap.size := by omega)); (try (have hyw1_wa : w.heap.size + 1 ≤ w1.heap.size := by omega))
    have B1 : Below w.heap.size w w1 := by repeat (first | exact Below.refl _ _ | assumption | refine Below.alloc ?_ (by first | (simp; done) | (simp; omega) | omega) _ | refine Below.setCell ?_ (by first | (simp; done) | (simp; omega) | omega) _ | apply Below.drew | refine Below.trans ?_ (Below.mono (by assumption) (by first | (simp; done) | (simp; omega) | omega)))
    go_wp2_with fail
    refine (works15_any _).mono ?_
    rintro e w2 ⟨rfl, hw2⟩; obtain ⟨hcw2, hfw2⟩ := bcell hw2; (try (simp only [World.size_drew, World.cell?_drew, World.frozen?_drew] at hcw2 hfw2)); have hzw2 := hw2.size; (try (simp only [World.size_alloc, World.size_setCell, World.size_drew] at hzw2)); (try (have hzw2_w_0 : w.heap.size < w2.heap.size := by omega)); (try (have hzw2_w_1 : w.heap.size + 1 < w2.heap.size := by omega)); (try (have hzw2_w_2 : w.heap.size + 1 + 1 < w2.heap.size := by omega)); (try (have hzw2_w_3 : w.heap.size + 1 + 1 + 1 < w2.heap.size := by omega)); (try (have hyw2_w : w.heap.size ≤ w2.heap.size := by omega)); (try (have hyw2_wa : w.heap.size + 1 ≤ w2.heap.size := by omega)); (try (have hzw2_w1_0 : w1.heap.size < w2.heap.size := by omega)); (try (have hzw2_w1_1 : w1.heap.size + 1 < w2.heap.size := by omega)); (try (have hzw2_w1_2 : w1.heap.size + 1 + 1 < w2.heap.size := by omega)); (try (have hzw2_w1_3 : w1.heap.size + 1 + 1 + 1 < w2.heap.size := by omega)); (try (have hyw2_w1 : w1.heap.size ≤ w2.heap.size := by omega)); (try (have hyw2_w1a : w1.heap.size + 1 ≤ w2.heap.size := by omega))
    have B2 : Below w.heap.size w w2 := B1.trans (hw2.mono B1.size)
    go_wp2
    go_ret
    exact ⟨rfl, B2⟩
  | true =>
    have hf := fewB_iff.1 ef
    rw [ef] at cf
    have h100 : ∀ i, i < len → (S i).size ≤ 100 := fun i hi => by have := hf.2 i hi; omega
    have ha := (wf_i64 hwa).2
    have hca := (wf_i64 hwca).2
    obtain ⟨vs, va, vl, ve, ct, cr⟩ := give_both t sp A len cap S (by have := hf.1; omega) h100 s a l e ca cg n ha hca w H
    have C1 := hide ct
    have C2 := hide cr
    clear ef H hS hf h100 ha hca ct cr hwa hwl hwca
    go_enter Try.func5, Try.ntmps5
    go_wp2_with fail
    refine (unhide cf _ (by repeat (first | exact Below.refl _ _ | assumption | refine Below.alloc ?_ (by first | (simp; done) | (simp; omega) | omega) _ | refine Below.setCell ?_ (by first | (simp; done) | (simp; omega) | omega) _ | apply Below.drew | refine Below.trans ?_ (Below.mono (by assumption) (by first | (simp; done) | (simp; omega) | omega))))).mono ?_
    rintro e w1 ⟨rfl, hw1⟩; obtain ⟨hcw1, hfw1⟩ := bcell hw1; (try (simp only [World.size_drew, World.cell?_drew, World.frozen?_drew] at hcw1 hfw1)); have hzw1 := hw1.size; (try (simp only [World.size_alloc, World.size_setCell, World.size_drew] at hzw1)); (try (have hzw1_w_0 : w.heap.size < w1.heap.size := by omega)); (try (have hzw1_w_1 : w.heap.size + 1 < w1.heap.size := by omega)); (try (have hzw1_w_2 : w.heap.size + 1 + 1 < w1.heap.size := by omega)); (try (have hzw1_w_3 : w.heap.size + 1 + 1 + 1 < w1.heap.size := by omega)); (try (have hyw1_w : w.heap.size ≤ w1.heap.size := by omega)); (try (have hyw1_wa : w.heap.size + 1 ≤ w1.heap.size := by omega))
    have B1 : Below w.heap.size w w1 := by repeat (first | exact Below.refl _ _ | assumption | refine Below.alloc ?_ (by first | (simp; done) | (simp; omega) | omega) _ | refine Below.setCell ?_ (by first | (simp; done) | (simp; omega) | omega) _ | apply Below.drew | refine Below.trans ?_ (Below.mono (by assumption) (by first | (simp; done) | (simp; omega) | omega)))
    go_wp2_with fail
    refine (unhide C1 _ B1).mono ?_
    rintro e w2 ⟨rfl, hw2⟩; obtain ⟨hcw2, hfw2⟩ := bcell hw2; (try (simp only [World.size_drew, World.cell?_drew, World.frozen?_drew] at hcw2 hfw2)); have hzw2 := hw2.size; (try (simp only [World.size_alloc, World.size_setCell, World.size_drew] at hzw2)); (try (have hzw2_w_0 : w.heap.size < w2.heap.size := by omega)); (try (have hzw2_w_1 : w.heap.size + 1 < w2.heap.size := by omega)); (try (have hzw2_w_2 : w.heap.size + 1 + 1 < w2.heap.size := by omega)); (try (have hzw2_w_3 : w.heap.size + 1 + 1 + 1 < w2.heap.size := by omega)); (try (have hyw2_w : w.heap.size ≤ w2.heap.size := by omega)); (try (have hyw2_wa : w.heap.size + 1 ≤ w2.heap.size := by omega)); (try (have hzw2_w1_0 : w1.heap.size < w2.heap.size := by omega)); (try (have hzw2_w1_1 : w1.heap.size + 1 < w2.heap.size := by omega)); (try (have hzw2_w1_2 : w1.heap.size + 1 + 1 < w2.heap.size := by omega)); (try (have hzw2_w1_3 : w1.heap.size + 1 + 1 + 1 < w2.heap.size := by omega)); (try (have hyw2_w1 : w1.heap.size ≤ w2.heap.size := by omega)); (try (have hyw2_w1a : w1.heap.size + 1 ≤ w2.heap.size := by omega))
    have B2 : Below w.heap.size w w2 := B1.trans (hw2.mono B1.size)
    go_wp2_with fail
    refine (unhide C2 _ (by repeat (first | exact Below.refl _ _ | assumption | refine Below.alloc ?_ (by first | (simp; done) | (simp; omega) | omega) _ | refine Below.setCell ?_ (by first | (simp; done) | (simp; omega) | omega) _ | apply Below.drew | refine Below.trans ?_ (Below.mono (by assumption) (by first | (simp; done) | (simp; omega) | omega))))).mono ?_
    rintro e w3 ⟨rfl, hw3⟩; obtain ⟨hcw3, hfw3⟩ := bcell hw3; (try (simp only [World.size_drew, World.cell?_drew, World.frozen?_drew] at hcw3 hfw3)); have hzw3 := hw3.size; (try (simp only [World.size_alloc, World.size_setCell, World.size_drew] at hzw3)); (try (have hzw3_w_0 : w.heap.size < w3.heap.size := by omega)); (try (have hzw3_w_1 : w.heap.size + 1 < w3.heap.size := by omega)); (try (have hzw3_w_2 : w.heap.size + 1 + 1 < w3.heap.size := by omega)); (try (have hzw3_w_3 : w.heap.size + 1 + 1 + 1 < w3.heap.size := by omega)); (try (have hyw3_w : w.heap.size ≤ w3.heap.size := by omega)); (try (have hyw3_wa : w.heap.size + 1 ≤ w3.heap.size := by omega)); (try (have hzw3_w1_0 : w1.heap.size < w3.heap.size := by omega)); (try (have hzw3_w1_1 : w1.heap.size + 1 < w3.heap.size := by omega)); (try (have hzw3_w1_2 : w1.heap.size + 1 + 1 < w3.heap.size := by omega)); (try (have hzw3_w1_3 : w1.heap.size + 1 + 1 + 1 < w3.heap.size := by omega)); (try (have hyw3_w1 : w1.heap.size ≤ w3.heap.size := by omega)); (try (have hyw3_w1a : w1.heap.size + 1 ≤ w3.heap.size := by omega)); (try (have hzw3_w2_0 : w2.heap.size < w3.heap.size := by omega)); (try (have hzw3_w2_1 : w2.heap.size + 1 < w3.heap.size := by omega)); (try (have hzw3_w2_2 : w2.heap.size + 1 + 1 < w3.heap.size := by omega)); (try (have hzw3_w2_3 : w2.heap.size + 1 + 1 + 1 < w3.heap.size := by omega)); (try (have hyw3_w2 : w2.heap.size ≤ w3.heap.size := by omega)); (try (have hyw3_w2a : w2.heap.size + 1 ≤ w3.heap.size := by omega))
    have B3 : Below w.heap.size w w3 := by repeat (first | exact Below.refl _ _ | assumption | refine Below.alloc ?_ (by first | (simp; done) | (simp; omega) | omega) _ | refine Below.setCell ?_ (by first | (simp; done) | (simp; omega) | omega) _ | apply Below.drew | refine Below.trans ?_ (Below.mono (by assumption) (by first | (simp; done) | (simp; omega) | omega)))
    go_wp2_with (go_at_call 12; refine (num15_any _ _).mono ?_; rintro e w' ⟨rfl, rfl⟩)
    refine (works15_any _).mono ?_
    rintro e w6 ⟨rfl, hw6⟩; obtain ⟨hcw6, hfw6⟩ := bcell hw6; (try (simp only [World.size_drew, World.cell?_drew, World.frozen?_drew] at hcw6 hfw6)); have hzw6 := hw6.size; (try (simp only [World.size_alloc, World.size_setCell, World.size_drew] at hzw6)); (try (have hzw6_w_0 : w.heap.size < w6.heap.size := by omega)); (try (have hzw6_w_1 : w.heap.size + 1 < w6.heap.size := by omega)); (try (have hzw6_w_2 : w.heap.size + 1 + 1 < w6.heap.size := by omega)); (try (have hzw6_w_3 : w.heap.size + 1 + 1 + 1 < w6.heap.size := by omega)); (try (have hyw6_w : w.heap.size ≤ w6.heap.size := by omega)); (try (have hyw6_wa : w.heap.size + 1 ≤ w6.heap.size := by omega)); (try (have hzw6_w1_0 : w1.heap.size < w6.heap.size := by omega)); (try (have hzw6_w1_1 : w1.heap.size + 1 < w6.heap.size := by omega)); (try (have hzw6_w1_2 : w1.heap.size + 1 + 1 < w6.heap.size := by omega)); (try (have hzw6_w1_3 : w1.heap.size + 1 + 1 + 1 < w6.heap.size := by omega)); (try (have hyw6_w1 : w1.heap.size ≤ w6.heap.size := by omega)); (try (have hyw6_w1a : w1.heap.size + 1 ≤ w6.heap.size := by omega)); (try (have hzw6_w2_0 : w2.heap.size < w6.heap.size := by omega)); (try (have hzw6_w2_1 : w2.heap.size + 1 < w6.heap.size := by omega)); (try (have hzw6_w2_2 : w2.heap.size + 1 + 1 < w6.heap.size := by omega)); (try (have hzw6_w2_3 : w2.heap.size + 1 + 1 + 1 < w6.heap.size := by omega)); (try (have hyw6_w2 : w2.heap.size ≤ w6.heap.size := by omega)); (try (have hyw6_w2a : w2.heap.size + 1 ≤ w6.heap.size := by omega)); (try (have hzw6_w3_0 : w3.heap.size < w6.heap.size := by omega)); (try (have hzw6_w3_1 : w3.heap.size + 1 < w6.heap.size := by omega)); (try (have hzw6_w3_2 : w3.heap.size + 1 + 1 < w6.heap.size := by omega)); (try (have hzw6_w3_3 : w3.heap.size + 1 + 1 + 1 < w6.heap.size := by omega)); (try (have hyw6_w3 : w3.heap.size ≤ w6.heap.size := by omega)); (try (have hyw6_w3a : w3.heap.size + 1 ≤ w6.heap.size := by omega))
    have B6 : Below w.heap.size w w6 := by repeat (first | exact Below.refl _ _ | assumption | refine Below.alloc ?_ (by first | (simp; done) | (simp; omega) | omega) _ | refine Below.setCell ?_ (by first | (simp; done) | (simp; omega) | omega) _ | apply Below.drew | refine Below.trans ?_ (Below.mono (by assumption) (by first | (simp; done) | (simp; omega) | omega)))
    go_wp2
    go_ret
    exact ⟨rfl, B6⟩
end Go.Proofs.Ytkmoefijncjlhaa
