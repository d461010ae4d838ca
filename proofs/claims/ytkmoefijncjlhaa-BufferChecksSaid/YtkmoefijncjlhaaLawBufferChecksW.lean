/- The walk of BufferChecks: it returns true. -/
import Derived.Test.YtkmoefijncjlhaaByI
namespace Go.Proofs.Ytkmoefijncjlhaa
set_option linter.unusedVariables false
set_option linter.unusedSimpArgs false
open Go.RowKit

set_option maxRecDepth 100000 in
set_option maxHeartbeats 4000000 in
theorem bufferChecks_walk (t : Int) (_ : (Lit.int .i64 t).wf = true) (sp : Int) (_ : (Lit.int .i64 sp).wf = true) (A : Option Addr) (len cap : Nat) (s : Int) (_ : (Lit.int .i64 s).wf = true) (a : Int) (hwa : (Lit.int .i64 a).wf = true) (l : Int) (hwl : (Lit.int .i64 l).wf = true) (x : Int) (_ : (Lit.int .i64 x).wf = true) (w : World) (hr : RowOk w 5 [.str] A len cap) :
    Calls Try.prog 3 #[.agg #[.int .i64 t, .int .i64 sp, .slice A len cap], .agg #[.int .i64 s, .int .i64 a, .int .i64 l], .int .i64 x] w fun e w' => e = .returned (.bool true) ∧ Below w.heap.size w w' := by
  have hm := hr.1
  have hm2 := hr.2.1
  unfold maxLen at hm2
  obtain ⟨S, H, hS⟩ := ShOk.of_row hr
  have cf := hide (fun W (hW : Below w.heap.size w W) => few_any t sp A len cap S (by omega) W (H.keep hW) hS)
  clear hr
  cases ef : fewB len S with
  | false =>
    rw [ef] at cf
    clear ef H hS
    go_enter Try.func3, Try.ntmps3
    go_wp2_with fail
    refine (unhide cf _ (by repeat (first | exact Below.refl _ _ | assumption | refine Below.alloc ?_ (by first | (simp; done) | (simp; omega) | omega) _ | refine Below.setCell ?_ (by first | (simp; done) | (simp; omega) | omega) _ | apply Below.drew | refine Below.trans ?_ (Below.mono (by assumption) (by first | (simp; done) | (simp; omega) | omega))))).mono ?_
    rintro e w1 ⟨rfl, hw1⟩; obtain ⟨hcw1, hfw1⟩ := bcell hw1; (try (simp only [World.size_drew, World.cell?_drew, World.frozen?_drew] at hcw1 hfw1)); have hzw1 := hw1.size; (try (simp only [World.size_alloc, World.size_setCell, World.size_drew] at hzw1)); (try (have hzw1_w_0 : w.heap.size < w1.heap.size := by omega)); (try (have hzw1_w_1 : w.heap.size + 1 < w1.heap.size := by omega)); (try (have hzw1_w_2 : w.heap.size + 1 + 1 < w1.heap.size := by omega)); (try (have hzw1_w_3 : w.heap.size + 1 + 1 + 1 < w1.heap.size := by omega)); (try (have hyw1_w : w.heap.size ≤ w1.heap.size := by omega)); (try (have hyw1_wa : w.heap.size + 1 ≤ w1.heap.size := by omega))
    have B1 : Below w.heap.size w w1 := by repeat (first | exact Below.refl _ _ | assumption | refine Below.alloc ?_ (by first | (simp; done) | (simp; omega) | omega) _ | refine Below.setCell ?_ (by first | (simp; done) | (simp; omega) | omega) _ | apply Below.drew | refine Below.trans ?_ (Below.mono (by assumption) (by first | (simp; done) | (simp; omega) | omega)))
    go_wp2_with fail
    refine (works15_any _).mono ?_
    rintro e w2 ⟨rfl, hw2⟩; obtain ⟨hcw2, hfw2⟩ := bcell hw2; (try (simp only [World.size_drew, World.cell?_drew, World.frozen?_drew] at hcw2 hfw2)); have hzw2 := hw2.size; (try (simp only [World.size_alloc, World.size_setCell, World.size_drew] at hzw2)); (try (have hzw2_w_0 : w.heap.size < w2.heap.size := by omega)); (try (have hzw2_w_1 : w.heap.size + 1 < w2.heap.size := by omega)); (try (have hzw2_w_2 : w.heap.size + 1 + 1 < w2.heap.size := by omega)); (try (have hzw2_w_3 : w.heap.size + 1 + 1 + 1 < w2.heap.size := by omega)); (try (have hyw2_w : w.heap.size ≤ w2.heap.size := by omega)); (try (have hyw2_wa : w.heap.size + 1 ≤ w2.heap.size := by omega)); (try (have hzw2_w1_0 : w1.heap.size < w2.heap.size := by omega)); (try (have hzw2_w1_1 : w1.heap.size + 1 < w2.heap.size := by omega)); (try (have hzw2_w1_2 : w1.heap.size + 1 + 1 < w2.heap.size := by omega)); (try (have hzw2_w1_3 : w1.heap.size + 1 + 1 + 1 < w2.heap.size := by omega)); (try (have hyw2_w1 : w1.heap.size ≤ w2.heap.size := by omega)); (try (have hyw2_w1a : w1.heap.size + 1 ≤ w2.heap.size := by omega))
    have B2 : Below w.heap.size w w2 := B1.trans (hw2.mono B1.size)
    go_wp2
    go_ret
    exact ⟨rfl, B2⟩
  | true =>
    have hf := fewB_iff.1 ef
    rw [ef] at cf
    have h100 : ∀ i, i < len → (S i).size ≤ 100 := fun i hi => by have := hf.2 i hi; omega
    have hl1000 : len ≤ 1000 := by have := hf.1; omega
    have ha := (wf_i64 hwa).2
    have C1 := hide (fun W (hW : Below w.heap.size w W) => empty_any t sp A len cap S hl1000 h100 x W (H.keep hW))
    have C2 := hide (fun W (hW : Below w.heap.size w W) => right06_any t sp A len cap S hl1000 h100 W (H.keep hW))
    have C3 := hide (fun W (hW : Below w.heap.size w W) => byChk_any t sp A len cap S hl1000 h100 s a l ha W (H.keep hW))
    have C4 := hide (fun W (hW : Below w.heap.size w W) => refChk15_any t sp A len cap S hl1000 h100 s a l W (H.keep hW))
    generalize (if rgtB t sp len S s a l = true then (0 : Int) else 2) = E at C3 C4
    by_cases hx : x = 0 ∨ x = 1
    · cases ep : okPB t sp len S with
      | true =>
        have hrg : rgtB t sp len S x 0 0 = true := rgtB_iff.2 ⟨okPB_iff.1 ep, hx, by omega, fun _ => rfl, fun h => absurd rfl h⟩
        rw [hrg, if_pos rfl, if_pos rfl] at C1
        rw [ep] at C2
        have hxb : (x = 0 ∧ (x != 0) = false) ∨ (x = 1 ∧ (x != 0) = true ∧ (x != 1) = false) := by
          rcases hx with rfl | rfl
          · exact .inl ⟨rfl, rfl⟩
          · exact .inr ⟨rfl, rfl, rfl⟩
        clear ef H hS hf h100 hl1000 ha hwa hwl hx ep hrg
        rcases hxb with ⟨rfl, _⟩ | ⟨rfl, _, _⟩
        · go_enter Try.func3, Try.ntmps3
          go_wp2_with fail
          refine (unhide cf _ (by repeat (first | exact Below.refl _ _ | assumption | refine Below.alloc ?_ (by first | (simp; done) | (simp; omega) | omega) _ | refine Below.setCell ?_ (by first | (simp; done) | (simp; omega) | omega) _ | apply Below.drew | refine Below.trans ?_ (Below.mono (by assumption) (by first | (simp; done) | (simp; omega) | omega))))).mono ?_
          rintro e w1 ⟨rfl, hw1⟩; obtain ⟨hcw1, hfw1⟩ := bcell hw1; (try (simp only [World.size_drew, World.cell?_drew, World.frozen?_drew] at hcw1 hfw1)); have hzw1 := hw1.size; (try (simp only [World.size_alloc, World.size_setCell, World.size_drew] at hzw1)); (try (have hzw1_w_0 : w.heap.size < w1.heap.size := by omega)); (try (have hzw1_w_1 : w.heap.size + 1 < w1.heap.size := by omega)); (try (have hzw1_w_2 : w.heap.size + 1 + 1 < w1.heap.size := by omega)); (try (have hzw1_w_3 : w.heap.size + 1 + 1 + 1 < w1.heap.size := by omega)); (try (have hyw1_w : w.heap.size ≤ w1.heap.size := by omega)); (try (have hyw1_wa : w.heap.size + 1 ≤ w1.heap.size := by omega))
          have B1 : Below w.heap.size w w1 := by repeat (first | exact Below.refl _ _ | assumption | refine Below.alloc ?_ (by first | (simp; done) | (simp; omega) | omega) _ | refine Below.setCell ?_ (by first | (simp; done) | (simp; omega) | omega) _ | apply Below.drew | refine Below.trans ?_ (Below.mono (by assumption) (by first | (simp; done) | (simp; omega) | omega)))
          go_wp2_with fail
          refine (unhide C1 _ B1).mono ?_
          rintro e w2 ⟨rfl, hw2⟩; obtain ⟨hcw2, hfw2⟩ := bcell hw2; (try (simp only [World.size_drew, World.cell?_drew, World.frozen?_drew] at hcw2 hfw2)); have hzw2 := hw2.size; (try (simp only [World.size_alloc, World.size_setCell, World.size_drew] at hzw2)); (try (have hzw2_w_0 : w.heap.size < w2.heap.size := by omega)); (try (have hzw2_w_1 : w.heap.size + 1 < w2.heap.size := by omega)); (try (have hzw2_w_2 : w.heap.size + 1 + 1 < w2.heap.size := by omega)); (try (have hzw2_w_3 : w.heap.size + 1 + 1 + 1 < w2.heap.size := by omega)); (try (have hyw2_w : w.heap.size ≤ w2.heap.size := by omega)); (try (have hyw2_wa : w.heap.size + 1 ≤ w2.heap.size := by omega)); (try (have hzw2_w1_0 : w1.heap.size < w2.heap.size := by omega)); (try (have hzw2_w1_1 : w1.heap.size + 1 < w2.heap.size := by omega)); (try (have hzw2_w1_2 : w1.heap.size + 1 + 1 < w2.heap.size := by omega)); (try (have hzw2_w1_3 : w1.heap.size + 1 + 1 + 1 < w2.heap.size := by omega)); (try (have hyw2_w1 : w1.heap.size ≤ w2.heap.size := by omega)); (try (have hyw2_w1a : w1.heap.size + 1 ≤ w2.heap.size := by omega))
          have B2 : Below w.heap.size w w2 := B1.trans (hw2.mono B1.size)
          go_wp2_with fail
          refine (unhide C2 _ (by repeat (first | exact Below.refl _ _ | assumption | refine Below.alloc ?_ (by first | (simp; done) | (simp; omega) | omega) _ | refine Below.setCell ?_ (by first | (simp; done) | (simp; omega) | omega) _ | apply Below.drew | refine Below.trans ?_ (Below.mono (by assumption) (by first | (simp; done) | (simp; omega) | omega))))).mono ?_
          rintro e w3 ⟨rfl, hw3⟩; obtain ⟨hcw3, hfw3⟩ := bcell hw3; (try (simp only [World.size_drew, World.cell?_drew, World.frozen?_drew] at hcw3 hfw3)); have hzw3 := hw3.size; (try (simp only [World.size_alloc, World.size_setCell, World.size_drew] at hzw3)); (try (have hzw3_w_0 : w.heap.size < w3.heap.size := by omega)); (try (have hzw3_w_1 : w.heap.size + 1 < w3.heap.size := by omega)); (try (have hzw3_w_2 : w.heap.size + 1 + 1 < w3.heap.size := by omega)); (try (have hzw3_w_3 : w.heap.size + 1 + 1 + 1 < w3.heap.size := by omega)); (try (have hyw3_w : w.heap.size ≤ w3.heap.size := by omega)); (try (have hyw3_wa : w.heap.size + 1 ≤ w3.heap.size := by omega)); (try (have hzw3_w1_0 : w1.heap.size < w3.heap.size := by omega)); (try (have hzw3_w1_1 : w1.heap.size + 1 < w3.heap.size := by omega)); (try (have hzw3_w1_2 : w1.heap.size + 1 + 1 < w3.heap.size := by omega)); (try (have hzw3_w1_3 : w1.heap.size + 1 + 1 + 1 < w3.heap.size := by omega)); (try (have hyw3_w1 : w1.heap.size ≤ w3.heap.size := by omega)); (try (have hyw3_w1a : w1.heap.size + 1 ≤ w3.heap.size := by omega)); (try (have hzw3_w2_0 : w2.heap.size < w3.heap.size := by omega)); (try (have hzw3_w2_1 : w2.heap.size + 1 < w3.heap.size := by omega)); (try (have hzw3_w2_2 : w2.heap.size + 1 + 1 < w3.heap.size := by omega)); (try (have hzw3_w2_3 : w2.heap.size + 1 + 1 + 1 < w3.heap.size := by omega)); (try (have hyw3_w2 : w2.heap.size ≤ w3.heap.size := by omega)); (try (have hyw3_w2a : w2.heap.size + 1 ≤ w3.heap.size := by omega))
          have B3 : Below w.heap.size w w3 := by repeat (first | exact Below.refl _ _ | assumption | refine Below.alloc ?_ (by first | (simp; done) | (simp; omega) | omega) _ | refine Below.setCell ?_ (by first | (simp; done) | (simp; omega) | omega) _ | apply Below.drew | refine Below.trans ?_ (Below.mono (by assumption) (by first | (simp; done) | (simp; omega) | omega)))
          go_upto_region 6 with fail
          have y0 : ∀ v : Later w3, v.val.cell? ⟨w.heap.size, 0, none⟩ = some (.int .i64 t) := Later.cell (by show w.heap.size < _; omega) (by go_simp)
          have y1 : ∀ v : Later w3, v.val.cell? ⟨w.heap.size, 1, none⟩ = some (.int .i64 sp) := Later.cell (by show w.heap.size < _; omega) (by go_simp)
          have y2 : ∀ v : Later w3, v.val.cell? ⟨w.heap.size, 2, none⟩ = some (.slice A len cap) := Later.cell (by show w.heap.size < _; omega) (by go_simp)
          have y3 : ∀ v : Later w3, v.val.cell? ⟨w.heap.size + 1, 0, none⟩ = some (.int .i64 s) := Later.cell (by show w.heap.size + 1 < _; omega) (by go_simp)
          have y4 : ∀ v : Later w3, v.val.cell? ⟨w.heap.size + 1, 1, none⟩ = some (.int .i64 a) := Later.cell (by show w.heap.size + 1 < _; omega) (by go_simp)
          have y5 : ∀ v : Later w3, v.val.cell? ⟨w.heap.size + 1, 2, none⟩ = some (.int .i64 l) := Later.cell (by show w.heap.size + 1 < _; omega) (by go_simp)
          have y6 : ∀ v : Later w3, v.val.cell? ⟨w2.heap.size, 0, none⟩ = some (.int .i64 0) := Later.cell (by show w2.heap.size < _; omega) (by go_simp)
          have y7 : ∀ v : Later w3, v.val.cell? ⟨w2.heap.size, 1, none⟩ = some (.int .i64 0) := Later.cell (by show w2.heap.size < _; omega) (by go_simp)
          have y8 : ∀ v : Later w3, v.val.cell? ⟨w2.heap.size, 2, none⟩ = some (.int .i64 0) := Later.cell (by show w2.heap.size < _; omega) (by go_simp)
          have HL3 := hide (fun W (hW : Below w3.heap.size w3 W) => B3.trans (hW.mono B3.size))
          have K3 := hide (fun (v : Later w3) => later_call (unhide C3 _ (unhide HL3 _ v.ok)))
          have K4 := hide (fun (v : Later w3) => later_call (unhide C4 _ (unhide HL3 _ v.ok)))
          refine wp_region_later w3 (by kernel_rfl) (by kernel_rfl) (by repeat (first | exact Below.refl _ _ | assumption | refine Below.alloc ?_ (by first | (simp; done) | (simp; omega) | omega) _ | refine Below.setCell ?_ (by first | (simp; done) | (simp; omega) | omega) _ | apply Below.drew | refine Below.trans ?_ (Below.mono (by assumption) (by first | (simp; done) | (simp; omega) | omega)))) ?_; (repeat (first | go_big_quiet_skip | (go_big_quiet_want; (first | ((fail); go_big_quiet_on; simp only [Act.put, List.setIfInBounds_toArray, List.set_cons_zero, List.set_cons_succ]) | (go_big_quiet_op; (first | go_big_quiet_on | go_big_quiet_call ((first | (go_at_call 12; exact later_same (num15_any _ _)) | (go_at_call 9; exact later_call (works15_any _)) | (go_at_call 13; exact unhide K3 _) | (go_at_call 14; exact unhide K4 _))))))))); refine wpQuiet_nil ?_
          intro w4 hw4
          go_wp2
          go_ret
          exact ⟨rfl, B3.trans (hw4.mono B3.size)⟩
        · go_enter Try.func3, Try.ntmps3
          go_wp2_with fail
          refine (unhide cf _ (by repeat (first | exact Below.refl _ _ | assumption | refine Below.alloc ?_ (by first | (simp; done) | (simp; omega) | omega) _ | refine Below.setCell ?_ (by first | (simp; done) | (simp; omega) | omega) _ | apply Below.drew | refine Below.trans ?_ (Below.mono (by assumption) (by first | (simp; done) | (simp; omega) | omega))))).mono ?_
          rintro e w1 ⟨rfl, hw1⟩; obtain ⟨hcw1, hfw1⟩ := bcell hw1; (try (simp only [World.size_drew, World.cell?_drew, World.frozen?_drew] at hcw1 hfw1)); have hzw1 := hw1.size; (try (simp only [World.size_alloc, World.size_setCell, World.size_drew] at hzw1)); (try (have hzw1_w_0 : w.heap.size < w1.heap.size := by omega)); (try (have hzw1_w_1 : w.heap.size + 1 < w1.heap.size := by omega)); (try (have hzw1_w_2 : w.heap.size + 1 + 1 < w1.heap.size := by omega)); (try (have hzw1_w_3 : w.heap.size + 1 + 1 + 1 < w1.heap.size := by omega)); (try (have hyw1_w : w.heap.size ≤ w1.heap.size := by omega)); (try (have hyw1_wa : w.heap.size + 1 ≤ w1.heap.size := by omega))
          have B1 : Below w.heap.size w w1 := by repeat (first | exact Below.refl _ _ | assumption | refine Below.alloc ?_ (by first | (simp; done) | (simp; omega) | omega) _ | refine Below.setCell ?_ (by first | (simp; done) | (simp; omega) | omega) _ | apply Below.drew | refine Below.trans ?_ (Below.mono (by assumption) (by first | (simp; done) | (simp; omega) | omega)))
          go_wp2_with fail
          refine (unhide C1 _ B1).mono ?_
          rintro e w2 ⟨rfl, hw2⟩; obtain ⟨hcw2, hfw2⟩ := bcell hw2; (try (simp only [World.size_drew, World.cell?_drew, World.frozen?_drew] at hcw2 hfw2)); have hzw2 := hw2.size; (try (simp only [World.size_alloc, World.size_setCell, World.size_drew] at hzw2)); (try (have hzw2_w_0 : w.heap.size < w2.heap.size := by omega)); (try (have hzw2_w_1 : w.heap.size + 1 < w2.heap.size := by omega)); (try (have hzw2_w_2 : w.heap.size + 1 + 1 < w2.heap.size := by omega)); (try (have hzw2_w_3 : w.heap.size + 1 + 1 + 1 < w2.heap.size := by omega)); (try (have hyw2_w : w.heap.size ≤ w2.heap.size := by omega)); (try (have hyw2_wa : w.heap.size + 1 ≤ w2.heap.size := by omega)); (try (have hzw2_w1_0 : w1.heap.size < w2.heap.size := by omega)); (try (have hzw2_w1_1 : w1.heap.size + 1 < w2.heap.size := by omega)); (try (have hzw2_w1_2 : w1.heap.size + 1 + 1 < w2.heap.size := by omega)); (try (have hzw2_w1_3 : w1.heap.size + 1 + 1 + 1 < w2.heap.size := by omega)); (try (have hyw2_w1 : w1.heap.size ≤ w2.heap.size := by omega)); (try (have hyw2_w1a : w1.heap.size + 1 ≤ w2.heap.size := by omega))
          have B2 : Below w.heap.size w w2 := B1.trans (hw2.mono B1.size)
          go_wp2_with fail
          refine (unhide C2 _ (by repeat (first | exact Below.refl _ _ | assumption | refine Below.alloc ?_ (by first | (simp; done) | (simp; omega) | omega) _ | refine Below.setCell ?_ (by first | (simp; done) | (simp; omega) | omega) _ | apply Below.drew | refine Below.trans ?_ (Below.mono (by assumption) (by first | (simp; done) | (simp; omega) | omega))))).mono ?_
          rintro e w3 ⟨rfl, hw3⟩; obtain ⟨hcw3, hfw3⟩ := bcell hw3; (try (simp only [World.size_drew, World.cell?_drew, World.frozen?_drew] at hcw3 hfw3)); have hzw3 := hw3.size; (try (simp only [World.size_alloc, World.size_setCell, World.size_drew] at hzw3)); (try (have hzw3_w_0 : w.heap.size < w3.heap.size := by omega)); (try (have hzw3_w_1 : w.heap.size + 1 < w3.heap.size := by omega)); (try (have hzw3_w_2 : w.heap.size + 1 + 1 < w3.heap.size := by omega)); (try (have hzw3_w_3 : w.heap.size + 1 + 1 + 1 < w3.heap.size := by omega)); (try (have hyw3_w : w.heap.size ≤ w3.heap.size := by omega)); (try (have hyw3_wa : w.heap.size + 1 ≤ w3.heap.size := by omega)); (try (have hzw3_w1_0 : w1.heap.size < w3.heap.size := by omega)); (try (have hzw3_w1_1 : w1.heap.size + 1 < w3.heap.size := by omega)); (try (have hzw3_w1_2 : w1.heap.size + 1 + 1 < w3.heap.size := by omega)); (try (have hzw3_w1_3 : w1.heap.size + 1 + 1 + 1 < w3.heap.size := by omega)); (try (have hyw3_w1 : w1.heap.size ≤ w3.heap.size := by omega)); (try (have hyw3_w1a : w1.heap.size + 1 ≤ w3.heap.size := by omega)); (try (have hzw3_w2_0 : w2.heap.size < w3.heap.size := by omega)); (try (have hzw3_w2_1 : w2.heap.size + 1 < w3.heap.size := by omega)); (try (have hzw3_w2_2 : w2.heap.size + 1 + 1 < w3.heap.size := by omega)); (try (have hzw3_w2_3 : w2.heap.size + 1 + 1 + 1 < w3.heap.size := by omega)); (try (have hyw3_w2 : w2.heap.size ≤ w3.heap.size := by omega)); (try (have hyw3_w2a : w2.heap.size + 1 ≤ w3.heap.size := by omega))
          have B3 : Below w.heap.size w w3 := by repeat (first | exact Below.refl _ _ | assumption | refine Below.alloc ?_ (by first | (simp; done) | (simp; omega) | omega) _ | refine Below.setCell ?_ (by first | (simp; done) | (simp; omega) | omega) _ | apply Below.drew | refine Below.trans ?_ (Below.mono (by assumption) (by first | (simp; done) | (simp; omega) | omega)))
          go_upto_region 6 with fail
          have y0 : ∀ v : Later w3, v.val.cell? ⟨w.heap.size, 0, none⟩ = some (.int .i64 t) := Later.cell (by show w.heap.size < _; omega) (by go_simp)
          have y1 : ∀ v : Later w3, v.val.cell? ⟨w.heap.size, 1, none⟩ = some (.int .i64 sp) := Later.cell (by show w.heap.size < _; omega) (by go_simp)
          have y2 : ∀ v : Later w3, v.val.cell? ⟨w.heap.size, 2, none⟩ = some (.slice A len cap) := Later.cell (by show w.heap.size < _; omega) (by go_simp)
          have y3 : ∀ v : Later w3, v.val.cell? ⟨w.heap.size + 1, 0, none⟩ = some (.int .i64 s) := Later.cell (by show w.heap.size + 1 < _; omega) (by go_simp)
          have y4 : ∀ v : Later w3, v.val.cell? ⟨w.heap.size + 1, 1, none⟩ = some (.int .i64 a) := Later.cell (by show w.heap.size + 1 < _; omega) (by go_simp)
          have y5 : ∀ v : Later w3, v.val.cell? ⟨w.heap.size + 1, 2, none⟩ = some (.int .i64 l) := Later.cell (by show w.heap.size + 1 < _; omega) (by go_simp)
          have y6 : ∀ v : Later w3, v.val.cell? ⟨w2.heap.size, 0, none⟩ = some (.int .i64 1) := Later.cell (by show w2.heap.size < _; omega) (by go_simp)
          have y7 : ∀ v : Later w3, v.val.cell? ⟨w2.heap.size, 1, none⟩ = some (.int .i64 0) := Later.cell (by show w2.heap.size < _; omega) (by go_simp)
          have y8 : ∀ v : Later w3, v.val.cell? ⟨w2.heap.size, 2, none⟩ = some (.int .i64 0) := Later.cell (by show w2.heap.size < _; omega) (by go_simp)
          have HL3 := hide (fun W (hW : Below w3.heap.size w3 W) => B3.trans (hW.mono B3.size))
          have K3 := hide (fun (v : Later w3) => later_call (unhide C3 _ (unhide HL3 _ v.ok)))
          have K4 := hide (fun (v : Later w3) => later_call (unhide C4 _ (unhide HL3 _ v.ok)))
          refine wp_region_later w3 (by kernel_rfl) (by kernel_rfl) (by repeat (first | exact Below.refl _ _ | assumption | refine Below.alloc ?_ (by first | (simp; done) | (simp; omega) | omega) _ | refine Below.setCell ?_ (by first | (simp; done) | (simp; omega) | omega) _ | apply Below.drew | refine Below.trans ?_ (Below.mono (by assumption) (by first | (simp; done) | (simp; omega) | omega)))) ?_; (repeat (first | go_big_quiet_skip | (go_big_quiet_want; (first | ((fail); go_big_quiet_on; simp only [Act.put, List.setIfInBounds_toArray, List.set_cons_zero, List.set_cons_succ]) | (go_big_quiet_op; (first | go_big_quiet_on | go_big_quiet_call ((first | (go_at_call 12; exact later_same (num15_any _ _)) | (go_at_call 9; exact later_call (works15_any _)) | (go_at_call 13; exact unhide K3 _) | (go_at_call 14; exact unhide K4 _))))))))); refine wpQuiet_nil ?_
          intro w4 hw4
          go_wp2
          go_ret
          exact ⟨rfl, B3.trans (hw4.mono B3.size)⟩
      | false =>
        have hrg : ¬ rgtB t sp len S x 0 0 = true := by rw [rgtB_iff]; exact fun h => by have := okPB_iff.2 h.1; rw [ep] at this; cases this
        rw [if_neg hrg, if_neg hrg] at C1
        rw [ep] at C2
        clear ef H hS hf h100 hl1000 ha hwa hwl hx ep hrg
        go_enter Try.func3, Try.ntmps3
        go_wp2_with fail
        refine (unhide cf _ (by repeat (first | exact Below.refl _ _ | assumption | refine Below.alloc ?_ (by first | (simp; done) | (simp; omega) | omega) _ | refine Below.setCell ?_ (by first | (simp; done) | (simp; omega) | omega) _ | apply Below.drew | refine Below.trans ?_ (Below.mono (by assumption) (by first | (simp; done) | (simp; omega) | omega))))).mono ?_
        rintro e w1 ⟨rfl, hw1⟩; obtain ⟨hcw1, hfw1⟩ := bcell hw1; (try (simp only [World.size_drew, World.cell?_drew, World.frozen?_drew] at hcw1 hfw1)); have hzw1 := hw1.size; (try (simp only [World.size_alloc, World.size_setCell, World.size_drew] at hzw1)); (try (have hzw1_w_0 : w.heap.size < w1.heap.size := by omega)); (try (have hzw1_w_1 : w.heap.size + 1 < w1.heap.size := by omega)); (try (have hzw1_w_2 : w.heap.size + 1 + 1 < w1.heap.size := by omega)); (try (have hzw1_w_3 : w.heap.size + 1 + 1 + 1 < w1.heap.size := by omega)); (try (have hyw1_w : w.heap.size ≤ w1.heap.size := by omega)); (try (have hyw1_wa : w.heap.size + 1 ≤ w1.heap.size := by omega))
        have B1 : Below w.heap.size w w1 := by repeat (first | exact Below.refl _ _ | assumption | refine Below.alloc ?_ (by first | (simp; done) | (simp; omega) | omega) _ | refine Below.setCell ?_ (by first | (simp; done) | (simp; omega) | omega) _ | apply Below.drew | refine Below.trans ?_ (Below.mono (by assumption) (by first | (simp; done) | (simp; omega) | omega)))
        go_wp2_with fail
        refine (unhide C1 _ B1).mono ?_
        rintro e w2 ⟨rfl, hw2⟩; obtain ⟨hcw2, hfw2⟩ := bcell hw2; (try (simp only [World.size_drew, World.cell?_drew, World.frozen?_drew] at hcw2 hfw2)); have hzw2 := hw2.size; (try (simp only [World.size_alloc, World.size_setCell, World.size_drew] at hzw2)); (try (have hzw2_w_0 : w.heap.size < w2.heap.size := by omega)); (try (have hzw2_w_1 : w.heap.size + 1 < w2.heap.size := by omega)); (try (have hzw2_w_2 : w.heap.size + 1 + 1 < w2.heap.size := by omega)); (try (have hzw2_w_3 : w.heap.size + 1 + 1 + 1 < w2.heap.size := by omega)); (try (have hyw2_w : w.heap.size ≤ w2.heap.size := by omega)); (try (have hyw2_wa : w.heap.size + 1 ≤ w2.heap.size := by omega)); (try (have hzw2_w1_0 : w1.heap.size < w2.heap.size := by omega)); (try (have hzw2_w1_1 : w1.heap.size + 1 < w2.heap.size := by omega)); (try (have hzw2_w1_2 : w1.heap.size + 1 + 1 < w2.heap.size := by omega)); (try (have hzw2_w1_3 : w1.heap.size + 1 + 1 + 1 < w2.heap.size := by omega)); (try (have hyw2_w1 : w1.heap.size ≤ w2.heap.size := by omega)); (try (have hyw2_w1a : w1.heap.size + 1 ≤ w2.heap.size := by omega))
        have B2 : Below w.heap.size w w2 := B1.trans (hw2.mono B1.size)
        go_wp2_with fail
        refine (unhide C2 _ (by repeat (first | exact Below.refl _ _ | assumption | refine Below.alloc ?_ (by first | (simp; done) | (simp; omega) | omega) _ | refine Below.setCell ?_ (by first | (simp; done) | (simp; omega) | omega) _ | apply Below.drew | refine Below.trans ?_ (Below.mono (by assumption) (by first | (simp; done) | (simp; omega) | omega))))).mono ?_
        rintro e w3 ⟨rfl, hw3⟩; obtain ⟨hcw3, hfw3⟩ := bcell hw3; (try (simp only [World.size_drew, World.cell?_drew, World.frozen?_drew] at hcw3 hfw3)); have hzw3 := hw3.size; (try (simp only [World.size_alloc, World.size_setCell, World.size_drew] at hzw3)); (try (have hzw3_w_0 : w.heap.size < w3.heap.size := by omega)); (try (have hzw3_w_1 : w.heap.size + 1 < w3.heap.size := by omega)); (try (have hzw3_w_2 : w.heap.size + 1 + 1 < w3.heap.size := by omega)); (try (have hzw3_w_3 : w.heap.size + 1 + 1 + 1 < w3.heap.size := by omega)); (try (have hyw3_w : w.heap.size ≤ w3.heap.size := by omega)); (try (have hyw3_wa : w.heap.size + 1 ≤ w3.heap.size := by omega)); (try (have hzw3_w1_0 : w1.heap.size < w3.heap.size := by omega)); (try (have hzw3_w1_1 : w1.heap.size + 1 < w3.heap.size := by omega)); (try (have hzw3_w1_2 : w1.heap.size + 1 + 1 < w3.heap.size := by omega)); (try (have hzw3_w1_3 : w1.heap.size + 1 + 1 + 1 < w3.heap.size := by omega)); (try (have hyw3_w1 : w1.heap.size ≤ w3.heap.size := by omega)); (try (have hyw3_w1a : w1.heap.size + 1 ≤ w3.heap.size := by omega)); (try (have hzw3_w2_0 : w2.heap.size < w3.heap.size := by omega)); (try (have hzw3_w2_1 : w2.heap.size + 1 < w3.heap.size := by omega)); (try (have hzw3_w2_2 : w2.heap.size + 1 + 1 < w3.heap.size := by omega)); (try (have hzw3_w2_3 : w2.heap.size + 1 + 1 + 1 < w3.heap.size := by omega)); (try (have hyw3_w2 : w2.heap.size ≤ w3.heap.size := by omega)); (try (have hyw3_w2a : w2.heap.size + 1 ≤ w3.heap.size := by omega))
        have B3 : Below w.heap.size w w3 := by repeat (first | exact Below.refl _ _ | assumption | refine Below.alloc ?_ (by first | (simp; done) | (simp; omega) | omega) _ | refine Below.setCell ?_ (by first | (simp; done) | (simp; omega) | omega) _ | apply Below.drew | refine Below.trans ?_ (Below.mono (by assumption) (by first | (simp; done) | (simp; omega) | omega)))
        go_upto_region 5 with fail
        have y0 : ∀ v : Later w3, v.val.cell? ⟨w.heap.size, 0, none⟩ = some (.int .i64 t) := Later.cell (by show w.heap.size < _; omega) (by go_simp)
        have y1 : ∀ v : Later w3, v.val.cell? ⟨w.heap.size, 1, none⟩ = some (.int .i64 sp) := Later.cell (by show w.heap.size < _; omega) (by go_simp)
        have y2 : ∀ v : Later w3, v.val.cell? ⟨w.heap.size, 2, none⟩ = some (.slice A len cap) := Later.cell (by show w.heap.size < _; omega) (by go_simp)
        have y3 : ∀ v : Later w3, v.val.cell? ⟨w.heap.size + 1, 0, none⟩ = some (.int .i64 s) := Later.cell (by show w.heap.size + 1 < _; omega) (by go_simp)
        have y4 : ∀ v : Later w3, v.val.cell? ⟨w.heap.size + 1, 1, none⟩ = some (.int .i64 a) := Later.cell (by show w.heap.size + 1 < _; omega) (by go_simp)
        have y5 : ∀ v : Later w3, v.val.cell? ⟨w.heap.size + 1, 2, none⟩ = some (.int .i64 l) := Later.cell (by show w.heap.size + 1 < _; omega) (by go_simp)
        have y6 : ∀ v : Later w3, v.val.cell? ⟨w2.heap.size, 0, none⟩ = some (.int .i64 0) := Later.cell (by show w2.heap.size < _; omega) (by go_simp)
        have y7 : ∀ v : Later w3, v.val.cell? ⟨w2.heap.size, 1, none⟩ = some (.int .i64 0) := Later.cell (by show w2.heap.size < _; omega) (by go_simp)
        have y8 : ∀ v : Later w3, v.val.cell? ⟨w2.heap.size, 2, none⟩ = some (.int .i64 0) := Later.cell (by show w2.heap.size < _; omega) (by go_simp)
        have HL3 := hide (fun W (hW : Below w3.heap.size w3 W) => B3.trans (hW.mono B3.size))
        have K3 := hide (fun (v : Later w3) => later_call (unhide C3 _ (unhide HL3 _ v.ok)))
        have K4 := hide (fun (v : Later w3) => later_call (unhide C4 _ (unhide HL3 _ v.ok)))
        refine wp_region_later w3 (by kernel_rfl) (by kernel_rfl) (by repeat (first | exact Below.refl _ _ | assumption | refine Below.alloc ?_ (by first | (simp; done) | (simp; omega) | omega) _ | refine Below.setCell ?_ (by first | (simp; done) | (simp; omega) | omega) _ | apply Below.drew | refine Below.trans ?_ (Below.mono (by assumption) (by first | (simp; done) | (simp; omega) | omega)))) ?_; (repeat (first | go_big_quiet_skip | (go_big_quiet_want; (first | ((fail); go_big_quiet_on; simp only [Act.put, List.setIfInBounds_toArray, List.set_cons_zero, List.set_cons_succ]) | (go_big_quiet_op; (first | go_big_quiet_on | go_big_quiet_call ((first | (go_at_call 12; exact later_same (num15_any _ _)) | (go_at_call 9; exact later_call (works15_any _)) | (go_at_call 13; exact unhide K3 _) | (go_at_call 14; exact unhide K4 _))))))))); refine wpQuiet_nil ?_
        intro w4 hw4
        go_wp2
        go_ret
        exact ⟨rfl, B3.trans (hw4.mono B3.size)⟩
    · have hrg : ¬ rgtB t sp len S x 0 0 = true := by rw [rgtB_iff]; exact fun h => hx h.2.1
      rw [if_neg hrg, if_neg hrg] at C1
      have hx0 : (x != 0) = true := by simp; omega
      have hx1 : (x != 1) = true := by simp; omega
      generalize okPB t sp len S = P at C2
      clear ef H hS hf h100 hl1000 ha hwa hwl hx hrg
      cases P with
      | true =>
        go_enter Try.func3, Try.ntmps3
        go_wp2_with fail
        refine (unhide cf _ (by repeat (first | exact Below.refl _ _ | assumption | refine Below.alloc ?_ (by first | (simp; done) | (simp; omega) | omega) _ | refine Below.setCell ?_ (by first | (simp; done) | (simp; omega) | omega) _ | apply Below.drew | refine Below.trans ?_ (Below.mono (by assumption) (by first | (simp; done) | (simp; omega) | omega))))).mono ?_
        rintro e w1 ⟨rfl, hw1⟩; obtain ⟨hcw1, hfw1⟩ := bcell hw1; (try (simp only [World.size_drew, World.cell?_drew, World.frozen?_drew] at hcw1 hfw1)); have hzw1 := hw1.size; (try (simp only [World.size_alloc, World.size_setCell, World.size_drew] at hzw1)); (try (have hzw1_w_0 : w.heap.size < w1.heap.size := by omega)); (try (have hzw1_w_1 : w.heap.size + 1 < w1.heap.size := by omega)); (try (have hzw1_w_2 : w.heap.size + 1 + 1 < w1.heap.size := by omega)); (try (have hzw1_w_3 : w.heap.size + 1 + 1 + 1 < w1.heap.size := by omega)); (try (have hyw1_w : w.heap.size ≤ w1.heap.size := by omega)); (try (have hyw1_wa : w.heap.size + 1 ≤ w1.heap.size := by omega))
        have B1 : Below w.heap.size w w1 := by repeat (first | exact Below.refl _ _ | assumption | refine Below.alloc ?_ (by first | (simp; done) | (simp; omega) | omega) _ | refine Below.setCell ?_ (by first | (simp; done) | (simp; omega) | omega) _ | apply Below.drew | refine Below.trans ?_ (Below.mono (by assumption) (by first | (simp; done) | (simp; omega) | omega)))
        go_wp2_with fail
        refine (unhide C1 _ B1).mono ?_
        rintro e w2 ⟨rfl, hw2⟩; obtain ⟨hcw2, hfw2⟩ := bcell hw2; (try (simp only [World.size_drew, World.cell?_drew, World.frozen?_drew] at hcw2 hfw2)); have hzw2 := hw2.size; (try (simp only [World.size_alloc, World.size_setCell, World.size_drew] at hzw2)); (try (have hzw2_w_0 : w.heap.size < w2.heap.size := by omega)); (try (have hzw2_w_1 : w.heap.size + 1 < w2.heap.size := by omega)); (try (have hzw2_w_2 : w.heap.size + 1 + 1 < w2.heap.size := by omega)); (try (have hzw2_w_3 : w.heap.size + 1 + 1 + 1 < w2.heap.size := by omega)); (try (have hyw2_w : w.heap.size ≤ w2.heap.size := by omega)); (try (have hyw2_wa : w.heap.size + 1 ≤ w2.heap.size := by omega)); (try (have hzw2_w1_0 : w1.heap.size < w2.heap.size := by omega)); (try (have hzw2_w1_1 : w1.heap.size + 1 < w2.heap.size := by omega)); (try (have hzw2_w1_2 : w1.heap.size + 1 + 1 < w2.heap.size := by omega)); (try (have hzw2_w1_3 : w1.heap.size + 1 + 1 + 1 < w2.heap.size := by omega)); (try (have hyw2_w1 : w1.heap.size ≤ w2.heap.size := by omega)); (try (have hyw2_w1a : w1.heap.size + 1 ≤ w2.heap.size := by omega))
        have B2 : Below w.heap.size w w2 := B1.trans (hw2.mono B1.size)
        go_wp2_with fail
        refine (unhide C2 _ (by repeat (first | exact Below.refl _ _ | assumption | refine Below.alloc ?_ (by first | (simp; done) | (simp; omega) | omega) _ | refine Below.setCell ?_ (by first | (simp; done) | (simp; omega) | omega) _ | apply Below.drew | refine Below.trans ?_ (Below.mono (by assumption) (by first | (simp; done) | (simp; omega) | omega))))).mono ?_
        rintro e w3 ⟨rfl, hw3⟩; obtain ⟨hcw3, hfw3⟩ := bcell hw3; (try (simp only [World.size_drew, World.cell?_drew, World.frozen?_drew] at hcw3 hfw3)); have hzw3 := hw3.size; (try (simp only [World.size_alloc, World.size_setCell, World.size_drew] at hzw3)); (try (have hzw3_w_0 : w.heap.size < w3.heap.size := by omega)); (try (have hzw3_w_1 : w.heap.size + 1 < w3.heap.size := by omega)); (try (have hzw3_w_2 : w.heap.size + 1 + 1 < w3.heap.size := by omega)); (try (have hzw3_w_3 : w.heap.size + 1 + 1 + 1 < w3.heap.size := by omega)); (try (have hyw3_w : w.heap.size ≤ w3.heap.size := by omega)); (try (have hyw3_wa : w.heap.size + 1 ≤ w3.heap.size := by omega)); (try (have hzw3_w1_0 : w1.heap.size < w3.heap.size := by omega)); (try (have hzw3_w1_1 : w1.heap.size + 1 < w3.heap.size := by omega)); (try (have hzw3_w1_2 : w1.heap.size + 1 + 1 < w3.heap.size := by omega)); (try (have hzw3_w1_3 : w1.heap.size + 1 + 1 + 1 < w3.heap.size := by omega)); (try (have hyw3_w1 : w1.heap.size ≤ w3.heap.size := by omega)); (try (have hyw3_w1a : w1.heap.size + 1 ≤ w3.heap.size := by omega)); (try (have hzw3_w2_0 : w2.heap.size < w3.heap.size := by omega)); (try (have hzw3_w2_1 : w2.heap.size + 1 < w3.heap.size := by omega)); (try (have hzw3_w2_2 : w2.heap.size + 1 + 1 < w3.heap.size := by omega)); (try (have hzw3_w2_3 : w2.heap.size + 1 + 1 + 1 < w3.heap.size := by omega)); (try (have hyw3_w2 : w2.heap.size ≤ w3.heap.size := by omega)); (try (have hyw3_w2a : w2.heap.size + 1 ≤ w3.heap.size := by omega))
        have B3 : Below w.heap.size w w3 := by repeat (first | exact Below.refl _ _ | assumption | refine Below.alloc ?_ (by first | (simp; done) | (simp; omega) | omega) _ | refine Below.setCell ?_ (by first | (simp; done) | (simp; omega) | omega) _ | apply Below.drew | refine Below.trans ?_ (Below.mono (by assumption) (by first | (simp; done) | (simp; omega) | omega)))
        go_upto_region 5 with fail
        have y0 : ∀ v : Later w3, v.val.cell? ⟨w.heap.size, 0, none⟩ = some (.int .i64 t) := Later.cell (by show w.heap.size < _; omega) (by go_simp)
        have y1 : ∀ v : Later w3, v.val.cell? ⟨w.heap.size, 1, none⟩ = some (.int .i64 sp) := Later.cell (by show w.heap.size < _; omega) (by go_simp)
        have y2 : ∀ v : Later w3, v.val.cell? ⟨w.heap.size, 2, none⟩ = some (.slice A len cap) := Later.cell (by show w.heap.size < _; omega) (by go_simp)
        have y3 : ∀ v : Later w3, v.val.cell? ⟨w.heap.size + 1, 0, none⟩ = some (.int .i64 s) := Later.cell (by show w.heap.size + 1 < _; omega) (by go_simp)
        have y4 : ∀ v : Later w3, v.val.cell? ⟨w.heap.size + 1, 1, none⟩ = some (.int .i64 a) := Later.cell (by show w.heap.size + 1 < _; omega) (by go_simp)
        have y5 : ∀ v : Later w3, v.val.cell? ⟨w.heap.size + 1, 2, none⟩ = some (.int .i64 l) := Later.cell (by show w.heap.size + 1 < _; omega) (by go_simp)
        have y6 : ∀ v : Later w3, v.val.cell? ⟨w2.heap.size, 0, none⟩ = some (.int .i64 0) := Later.cell (by show w2.heap.size < _; omega) (by go_simp)
        have y7 : ∀ v : Later w3, v.val.cell? ⟨w2.heap.size, 1, none⟩ = some (.int .i64 0) := Later.cell (by show w2.heap.size < _; omega) (by go_simp)
        have y8 : ∀ v : Later w3, v.val.cell? ⟨w2.heap.size, 2, none⟩ = some (.int .i64 0) := Later.cell (by show w2.heap.size < _; omega) (by go_simp)
        have HL3 := hide (fun W (hW : Below w3.heap.size w3 W) => B3.trans (hW.mono B3.size))
        have K3 := hide (fun (v : Later w3) => later_call (unhide C3 _ (unhide HL3 _ v.ok)))
        have K4 := hide (fun (v : Later w3) => later_call (unhide C4 _ (unhide HL3 _ v.ok)))
        refine wp_region_later w3 (by kernel_rfl) (by kernel_rfl) (by repeat (first | exact Below.refl _ _ | assumption | refine Below.alloc ?_ (by first | (simp; done) | (simp; omega) | omega) _ | refine Below.setCell ?_ (by first | (simp; done) | (simp; omega) | omega) _ | apply Below.drew | refine Below.trans ?_ (Below.mono (by assumption) (by first | (simp; done) | (simp; omega) | omega)))) ?_; (repeat (first | go_big_quiet_skip | (go_big_quiet_want; (first | ((fail); go_big_quiet_on; simp only [Act.put, List.setIfInBounds_toArray, List.set_cons_zero, List.set_cons_succ]) | (go_big_quiet_op; (first | go_big_quiet_on | go_big_quiet_call ((first | (go_at_call 12; exact later_same (num15_any _ _)) | (go_at_call 9; exact later_call (works15_any _)) | (go_at_call 13; exact unhide K3 _) | (go_at_call 14; exact unhide K4 _))))))))); refine wpQuiet_nil ?_
        intro w4 hw4
        go_wp2
        go_ret
        exact ⟨rfl, B3.trans (hw4.mono B3.size)⟩
      | false =>
        go_enter Try.func3, Try.ntmps3
        go_wp2_with fail
        refine (unhide cf _ (by repeat (first | exact Below.refl _ _ | assumption | refine Below.alloc ?_ (by first | (simp; done) | (simp; omega) | omega) _ | refine Below.setCell ?_ (by first | (simp; done) | (simp; omega) | omega) _ | apply Below.drew | refine Below.trans ?_ (Below.mono (by assumption) (by first | (simp; done) | (simp; omega) | omega))))).mono ?_
        rintro e w1 ⟨rfl, hw1⟩; obtain ⟨hcw1, hfw1⟩ := bcell hw1; (try (simp only [World.size_drew, World.cell?_drew, World.frozen?_drew] at hcw1 hfw1)); have hzw1 := hw1.size; (try (simp only [World.size_alloc, World.size_setCell, World.size_drew] at hzw1)); (try (have hzw1_w_0 : w.heap.size < w1.heap.size := by omega)); (try (have hzw1_w_1 : w.heap.size + 1 < w1.heap.size := by omega)); (try (have hzw1_w_2 : w.heap.size + 1 + 1 < w1.heap.size := by omega)); (try (have hzw1_w_3 : w.heap.size + 1 + 1 + 1 < w1.heap.size := by omega)); (try (have hyw1_w : w.heap.size ≤ w1.heap.size := by omega)); (try (have hyw1_wa : w.heap.size + 1 ≤ w1.heap.size := by omega))
        have B1 : Below w.heap.size w w1 := by repeat (first | exact Below.refl _ _ | assumption | refine Below.alloc ?_ (by first | (simp; done) | (simp; omega) | omega) _ | refine Below.setCell ?_ (by first | (simp; done) | (simp; omega) | omega) _ | apply Below.drew | refine Below.trans ?_ (Below.mono (by assumption) (by first | (simp; done) | (simp; omega) | omega)))
        go_wp2_with fail
        refine (unhide C1 _ B1).mono ?_
        rintro e w2 ⟨rfl, hw2⟩; obtain ⟨hcw2, hfw2⟩ := bcell hw2; (try (simp only [World.size_drew, World.cell?_drew, World.frozen?_drew] at hcw2 hfw2)); have hzw2 := hw2.size; (try (simp only [World.size_alloc, World.size_setCell, World.size_drew] at hzw2)); (try (have hzw2_w_0 : w.heap.size < w2.heap.size := by omega)); (try (have hzw2_w_1 : w.heap.size + 1 < w2.heap.size := by omega)); (try (have hzw2_w_2 : w.heap.size + 1 + 1 < w2.heap.size := by omega)); (try (have hzw2_w_3 : w.heap.size + 1 + 1 + 1 < w2.heap.size := by omega)); (try (have hyw2_w : w.heap.size ≤ w2.heap.size := by omega)); (try (have hyw2_wa : w.heap.size + 1 ≤ w2.heap.size := by omega)); (try (have hzw2_w1_0 : w1.heap.size < w2.heap.size := by omega)); (try (have hzw2_w1_1 : w1.heap.size + 1 < w2.heap.size := by omega)); (try (have hzw2_w1_2 : w1.heap.size + 1 + 1 < w2.heap.size := by omega)); (try (have hzw2_w1_3 : w1.heap.size + 1 + 1 + 1 < w2.heap.size := by omega)); (try (have hyw2_w1 : w1.heap.size ≤ w2.heap.size := by omega)); (try (have hyw2_w1a : w1.heap.size + 1 ≤ w2.heap.size := by omega))
        have B2 : Below w.heap.size w w2 := B1.trans (hw2.mono B1.size)
        go_wp2_with fail
        refine (unhide C2 _ (by repeat (first | exact Below.refl _ _ | assumption | refine Below.alloc ?_ (by first | (simp; done) | (simp; omega) | omega) _ | refine Below.setCell ?_ (by first | (simp; done) | (simp; omega) | omega) _ | apply Below.drew | refine Below.trans ?_ (Below.mono (by assumption) (by first | (simp; done) | (simp; omega) | omega))))).mono ?_
        rintro e w3 ⟨rfl, hw3⟩; obtain ⟨hcw3, hfw3⟩ := bcell hw3; (try (simp only [World.size_drew, World.cell?_drew, World.frozen?_drew] at hcw3 hfw3)); have hzw3 := hw3.size; (try (simp only [World.size_alloc, World.size_setCell, World.size_drew] at hzw3)); (try (have hzw3_w_0 : w.heap.size < w3.heap.size := by omega)); (try (have hzw3_w_1 : w.heap.size + 1 < w3.heap.size := by omega)); (try (have hzw3_w_2 : w.heap.size + 1 + 1 < w3.heap.size := by omega)); (try (have hzw3_w_3 : w.heap.size + 1 + 1 + 1 < w3.heap.size := by omega)); (try (have hyw3_w : w.heap.size ≤ w3.heap.size := by omega)); (try (have hyw3_wa : w.heap.size + 1 ≤ w3.heap.size := by omega)); (try (have hzw3_w1_0 : w1.heap.size < w3.heap.size := by omega)); (try (have hzw3_w1_1 : w1.heap.size + 1 < w3.heap.size := by omega)); (try (have hzw3_w1_2 : w1.heap.size + 1 + 1 < w3.heap.size := by omega)); (try (have hzw3_w1_3 : w1.heap.size + 1 + 1 + 1 < w3.heap.size := by omega)); (try (have hyw3_w1 : w1.heap.size ≤ w3.heap.size := by omega)); (try (have hyw3_w1a : w1.heap.size + 1 ≤ w3.heap.size := by omega)); (try (have hzw3_w2_0 : w2.heap.size < w3.heap.size := by omega)); (try (have hzw3_w2_1 : w2.heap.size + 1 < w3.heap.size := by omega)); (try (have hzw3_w2_2 : w2.heap.size + 1 + 1 < w3.heap.size := by omega)); (try (have hzw3_w2_3 : w2.heap.size + 1 + 1 + 1 < w3.heap.size := by omega)); (try (have hyw3_w2 : w2.heap.size ≤ w3.heap.size := by omega)); (try (have hyw3_w2a : w2.heap.size + 1 ≤ w3.heap.size := by omega))
        have B3 : Below w.heap.size w w3 := by repeat (first | exact Below.refl _ _ | assumption | refine Below.alloc ?_ (by first | (simp; done) | (simp; omega) | omega) _ | refine Below.setCell ?_ (by first | (simp; done) | (simp; omega) | omega) _ | apply Below.drew | refine Below.trans ?_ (Below.mono (by assumption) (by first | (simp; done) | (simp; omega) | omega)))
        go_upto_region 5 with fail
        have y0 : ∀ v : Later w3, v.val.cell? ⟨w.heap.size, 0, none⟩ = some (.int .i64 t) := Later.cell (by show w.heap.size < _; omega) (by go_simp)
        have y1 : ∀ v : Later w3, v.val.cell? ⟨w.heap.size, 1, none⟩ = some (.int .i64 sp) := Later.cell (by show w.heap.size < _; omega) (by go_simp)
        have y2 : ∀ v : Later w3, v.val.cell? ⟨w.heap.size, 2, none⟩ = some (.slice A len cap) := Later.cell (by show w.heap.size < _; omega) (by go_simp)
        have y3 : ∀ v : Later w3, v.val.cell? ⟨w.heap.size + 1, 0, none⟩ = some (.int .i64 s) := Later.cell (by show w.heap.size + 1 < _; omega) (by go_simp)
        have y4 : ∀ v : Later w3, v.val.cell? ⟨w.heap.size + 1, 1, none⟩ = some (.int .i64 a) := Later.cell (by show w.heap.size + 1 < _; omega) (by go_simp)
        have y5 : ∀ v : Later w3, v.val.cell? ⟨w.heap.size + 1, 2, none⟩ = some (.int .i64 l) := Later.cell (by show w.heap.size + 1 < _; omega) (by go_simp)
        have y6 : ∀ v : Later w3, v.val.cell? ⟨w2.heap.size, 0, none⟩ = some (.int .i64 0) := Later.cell (by show w2.heap.size < _; omega) (by go_simp)
        have y7 : ∀ v : Later w3, v.val.cell? ⟨w2.heap.size, 1, none⟩ = some (.int .i64 0) := Later.cell (by show w2.heap.size < _; omega) (by go_simp)
        have y8 : ∀ v : Later w3, v.val.cell? ⟨w2.heap.size, 2, none⟩ = some (.int .i64 0) := Later.cell (by show w2.heap.size < _; omega) (by go_simp)
        have HL3 := hide (fun W (hW : Below w3.heap.size w3 W) => B3.trans (hW.mono B3.size))
        have K3 := hide (fun (v : Later w3) => later_call (unhide C3 _ (unhide HL3 _ v.ok)))
        have K4 := hide (fun (v : Later w3) => later_call (unhide C4 _ (unhide HL3 _ v.ok)))
        refine wp_region_later w3 (by kernel_rfl) (by kernel_rfl) (by repeat (first | exact Below.refl _ _ | assumption | refine Below.alloc ?_ (by first | (simp; done) | (simp; omega) | omega) _ | refine Below.setCell ?_ (by first | (simp; done) | (simp; omega) | omega) _ | apply Below.drew | refine Below.trans ?_ (Below.mono (by assumption) (by first | (simp; done) | (simp; omega) | omega)))) ?_; (repeat (first | go_big_quiet_skip | (go_big_quiet_want; (first | ((fail); go_big_quiet_on; simp only [Act.put, List.setIfInBounds_toArray, List.set_cons_zero, List.set_cons_succ]) | (go_big_quiet_op; (first | go_big_quiet_on | go_big_quiet_call ((first | (go_at_call 12; exact later_same (num15_any _ _)) | (go_at_call 9; exact later_call (works15_any _)) | (go_at_call 13; exact unhide K3 _) | (go_at_call 14; exact unhide K4 _))))))))); refine wpQuiet_nil ?_
        intro w4 hw4
        go_wp2
        go_ret
        exact ⟨rfl, B3.trans (hw4.mono B3.size)⟩
end Go.Proofs.Ytkmoefijncjlhaa
