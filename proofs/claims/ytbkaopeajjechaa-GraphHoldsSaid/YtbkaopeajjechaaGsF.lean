/- The chapter's rows, plainly: what six operations come to. No walk in sight. -/
import Derived.Test.YtbkaopeajjechaaGsE
namespace Go.Proofs.Ytbkaopeajjechaa
set_option linter.unusedVariables false
set_option linter.unusedSimpArgs false
open Go.RowKit

/-- The rows' shapes; an operation by its numbers. -/
def wkS : Nat → ByteArray := fun i => if i = 0 then ⟨#[112, 115]⟩ else ⟨#[]⟩
def zl (l : List Int) : Nat → Int := fun i => l.getD i 0

theorem wk_T : okT 2 wkS := ⟨by omega, by omega, fun i hi => by
  obtain rfl | rfl : i = 0 ∨ i = 1 := by omega
  · refine ⟨by decide, fun j hj => ?_⟩
    have hj : j < 2 := hj
    obtain rfl | rfl : j = 0 ∨ j = 1 := by omega
    · exact .inl rfl
    · exact .inr rfl
  · refine ⟨by decide, fun j hj => ?_⟩
    have hj : j < 0 := hj
    omega⟩
theorem wk_P : okPB ((1 : Nat) : Int) 32 2 wkS = true := okPB_iff.2 ⟨by omega, by omega, wk_T⟩
theorem wk_B : okTB 2 wkS = true := okTB_iff.2 wk_T

theorem isE_val {len : Nat} {S : Nat → ByteArray} (h : okTB len S = true) {n f : Nat} (hn : n < len) (hf : f < (S n).size) (k : Int) : isE len S n f k = if kd (S n) f = k then 0 else 132 := by
  have h1 : ofE len S (n : Int) = 0 := by unfold ofE; rw [if_pos h, if_pos (by omega)]
  have h2 : kindE len S (n : Int) (f : Int) = 0 := by unfold kindE; rw [if_pos h1, Int.toNat_natCast, if_pos (by omega)]
  have h3 : kindV len S (n : Int) (f : Int) = kd (S n) f := by unfold kindV; rw [if_pos h2, Int.toNat_natCast, Int.toNat_natCast]
  unfold isE
  rw [h2, h3]
  by_cases e : kd (S n) f = k
  · rw [if_pos e, if_neg (by rintro ⟨_, h⟩; exact h e)]
  · rw [if_neg e, if_pos ⟨rfl, e⟩]

theorem go_ok {len : Nat} {S : Nat → ByteArray} {T : Nat} {G : Gr} {z : Nat → Int} (t : Nat) (ht : t < T) (he : G.err len S t z = 0) :
    G.aE len S T t z = 0 ∧ G.aI len S T t z = G.is t z ∧ G.aV len S T t z = G.val t z ∧ G.go len S T t z = G.did t z ∧ aF T t = 0 := by
  have h : 0 ≤ (t : Int) ∧ (t : Int) < (T : Int) := by omega
  unfold Gr.aE Gr.aI Gr.aV Gr.go aF Gr.next
  simp only [if_pos h, Int.toNat_natCast, he, if_true]
  refine ⟨?_, ?_, ?_, ?_, ?_⟩ <;> first | trivial | rfl
theorem go_er {len : Nat} {S : Nat → ByteArray} {T : Nat} {G : Gr} {z : Nat → Int} (t : Nat) (ht : t < T) (he : G.err len S t z ≠ 0) :
    G.aE len S T t z = G.err len S t z ∧ G.aI len S T t z = false ∧ G.aV len S T t z = 0 ∧ G.go len S T t z = G ∧ aF T t = 0 := by
  have h : 0 ≤ (t : Int) ∧ (t : Int) < (T : Int) := by omega
  unfold Gr.aE Gr.aI Gr.aV Gr.go aF Gr.next
  simp only [if_pos h, Int.toNat_natCast, he, if_false]
  refine ⟨?_, ?_, ?_, ?_, ?_⟩ <;> first | trivial | rfl

/-- An operation on an object's field that goes well, or not for its kind alone. -/
theorem err_fld {len : Nat} {S : Nat → ByteArray} {G : Gr} {z : Nat → Int} {t f : Nat} (h0 : opE len S z = 0) (h1 : 2 ≤ z 0) (h2 : z 0 ≤ 7) (hr : G.root t (z 1).toNat ≠ 0) (hs : G.sh (G.root t (z 1).toNat) < len) (hf : z 4 = (f : Int)) (hl : f < (S (G.sh (G.root t (z 1).toNat))).size) (hB : okTB len S = true) :
    G.err len S t z = if kd (S (G.sh (G.root t (z 1).toNat))) f = fldK (z 0) then 0 else 132 := by
  unfold Gr.err
  rw [if_neg (by rw [h0]; simp), if_neg (by omega), if_neg hr, hf]
  exact isE_val hB hs hl _
theorem err_slot {len : Nat} {S : Nat → ByteArray} {G : Gr} {z : Nat → Int} {t : Nat} (h0 : opE len S z = 0) (h1 : z 0 = 1 ∨ 8 ≤ z 0) : G.err len S t z = 0 := by
  unfold Gr.err
  rw [if_neg (by rw [h0]; simp), if_pos h1]

def wk0 : Gr := Gr.new
def wk1 : Gr := wk0.did 0 (zl [1])
def wk2 : Gr := wk1.did 0 (zl [1, 1, 0, 0, 0, 1])
def wk3 : Gr := wk2.did 0 (zl [3, 0, 1])
def wk4 : Gr := wk3.did 0 (zl [2, 0, 2])
def wk5 : Gr := wk4.did 0 (zl [4, 0, 2, 3])

theorem wk_op1 : opE 2 wkS (zl [1]) = 0 := (opE_of wk_B (bareB_iff.2 ⟨by decide, by decide⟩) (by unfold slotP; decide) rfl).trans (by unfold ofE; rw [if_pos wk_B, if_pos (by decide)])
theorem wk_op2 : opE 2 wkS (zl [1, 1, 0, 0, 0, 1]) = 0 := (opE_of wk_B (bareB_iff.2 ⟨by decide, by decide⟩) (by unfold slotP; decide) rfl).trans (by unfold ofE; rw [if_pos wk_B, if_pos (by decide)])
theorem wk_op3 : opE 2 wkS (zl [3, 0, 1]) = 0 := opE_0 wk_B (bareB_iff.2 ⟨by decide, by decide⟩) (by unfold slotP; decide) (by decide) (by unfold valP; decide)
theorem wk_op4 : opE 2 wkS (zl [2, 0, 2]) = 0 := opE_0 wk_B (bareB_iff.2 ⟨by decide, by decide⟩) (by unfold slotP; decide) (by decide) (by unfold valP; decide)
theorem wk_op5 : opE 2 wkS (zl [4, 0, 2, 3]) = 0 := opE_0 wk_B (bareB_iff.2 ⟨by decide, by decide⟩) (by unfold slotP; decide) (by decide) (by unfold valP; decide)
theorem wk_op6 : opE 2 wkS (zl [5]) = 0 := opE_0 wk_B (bareB_iff.2 ⟨by decide, by decide⟩) (by unfold slotP; decide) (by decide) (by unfold valP; decide)

theorem wk_e1 : wk0.err 2 wkS 0 (zl [1]) = 0 := err_slot wk_op1 (.inl rfl)
theorem wk_e2 : wk1.err 2 wkS 0 (zl [1, 1, 0, 0, 0, 1]) = 0 := err_slot wk_op2 (.inl rfl)
theorem wk_e3 : wk2.err 2 wkS 0 (zl [3, 0, 1]) = 0 := (err_fld (f := 0) wk_op3 (by decide) (by decide) (by decide) (by decide) rfl (by decide) wk_B).trans (by decide)
theorem wk_e4 : wk3.err 2 wkS 0 (zl [2, 0, 2]) = 0 := (err_fld (f := 0) wk_op4 (by decide) (by decide) (by decide) (by decide) rfl (by decide) wk_B).trans (by decide)
theorem wk_e5 : wk4.err 2 wkS 0 (zl [4, 0, 2, 3]) = 0 := (err_fld (f := 0) wk_op5 (by decide) (by decide) (by decide) (by decide) rfl (by decide) wk_B).trans (by decide)
theorem wk_e6 : wk5.err 2 wkS 0 (zl [5]) = 132 := (err_fld (f := 0) wk_op6 (by decide) (by decide) (by decide) (by decide) rfl (by decide) wk_B).trans (by decide)

theorem wk_r1 : wk0.aE 2 wkS 1 0 (zl [1]) = 0 ∧ wk0.aI 2 wkS 1 0 (zl [1]) = false ∧ wk0.aV 2 wkS 1 0 (zl [1]) = 0 ∧ wk0.go 2 wkS 1 0 (zl [1]) = wk1 ∧ aF 1 0 = 0 := go_ok 0 (by omega) wk_e1
theorem wk_r2 : wk1.aE 2 wkS 1 0 (zl [1, 1, 0, 0, 0, 1]) = 0 ∧ wk1.aI 2 wkS 1 0 (zl [1, 1, 0, 0, 0, 1]) = false ∧ wk1.aV 2 wkS 1 0 (zl [1, 1, 0, 0, 0, 1]) = 0 ∧ wk1.go 2 wkS 1 0 (zl [1, 1, 0, 0, 0, 1]) = wk2 ∧ aF 1 0 = 0 := go_ok 0 (by omega) wk_e2
theorem wk_r3 : wk2.aE 2 wkS 1 0 (zl [3, 0, 1]) = 0 ∧ wk2.aI 2 wkS 1 0 (zl [3, 0, 1]) = false ∧ wk2.aV 2 wkS 1 0 (zl [3, 0, 1]) = 0 ∧ wk2.go 2 wkS 1 0 (zl [3, 0, 1]) = wk3 ∧ aF 1 0 = 0 := go_ok 0 (by omega) wk_e3
theorem wk_r4 : wk3.aE 2 wkS 1 0 (zl [2, 0, 2]) = 0 ∧ wk3.aI 2 wkS 1 0 (zl [2, 0, 2]) = true ∧ wk3.aV 2 wkS 1 0 (zl [2, 0, 2]) = 0 ∧ wk3.go 2 wkS 1 0 (zl [2, 0, 2]) = wk4 ∧ aF 1 0 = 0 := go_ok 0 (by omega) wk_e4
theorem wk_r5 : wk4.aE 2 wkS 1 0 (zl [4, 0, 2, 3]) = 0 ∧ wk4.aI 2 wkS 1 0 (zl [4, 0, 2, 3]) = true ∧ wk4.aV 2 wkS 1 0 (zl [4, 0, 2, 3]) = 0 ∧ wk4.go 2 wkS 1 0 (zl [4, 0, 2, 3]) = wk5 ∧ aF 1 0 = 0 := go_ok 0 (by omega) wk_e5
theorem wk_r6 : wk5.aE 2 wkS 1 0 (zl [5]) = 132 ∧ wk5.aI 2 wkS 1 0 (zl [5]) = false ∧ wk5.aV 2 wkS 1 0 (zl [5]) = 0 ∧ wk5.go 2 wkS 1 0 (zl [5]) = wk5 ∧ aF 1 0 = 0 := by
  have := go_er (T := 1) (G := wk5) (z := zl [5]) 0 (by omega) (by rw [wk_e6]; decide)
  rw [wk_e6] at this
  exact this
theorem wk_w : wordsOf wkS wk5 (wk5.reach 1 wkS) = 6 := by decide
theorem wk_n : wk5.n = 3 := by decide
end Go.Proofs.Ytbkaopeajjechaa
