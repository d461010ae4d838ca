/- Do, whatever it is asked: one contract. The chapter's rows, plainly: what six operations come to. No walk in sight. The laws of layer 9: num, few, the chapter's rows. -/
import Derived.Test.YtbkaopeajjechaaGsA
import Derived.Test.YtbkaopeajjechaaGrY
namespace Go.Proofs.Ytbkaopeajjechaa
set_option linter.unusedVariables false
set_option linter.unusedSimpArgs false
open Go.RowKit Go.Maps

section
variable {T : Nat} {sp : Int} {len : Nat} {S : Nat → ByteArray} {w : World} {L : Lay} {G : Gr}

/-- What an operation of a thread is answered: an error, whether it went well, a number; whether the thread is there; the graph behind it. -/
noncomputable def Gr.aE (len : Nat) (S : Nat → ByteArray) (T : Nat) (G : Gr) (t : Int) (z : Nat → Int) : Int := if 0 ≤ t ∧ t < (T : Int) then G.err len S t.toNat z else 0
noncomputable def Gr.aI (len : Nat) (S : Nat → ByteArray) (T : Nat) (G : Gr) (t : Int) (z : Nat → Int) : Bool := if 0 ≤ t ∧ t < (T : Int) then (if G.err len S t.toNat z = 0 then G.is t.toNat z else false) else false
noncomputable def Gr.aV (len : Nat) (S : Nat → ByteArray) (T : Nat) (G : Gr) (t : Int) (z : Nat → Int) : Int := if 0 ≤ t ∧ t < (T : Int) then (if G.err len S t.toNat z = 0 then G.val t.toNat z else 0) else 0
def aF (T : Nat) (t : Int) : Int := if 0 ≤ t ∧ t < (T : Int) then 0 else 4
noncomputable def Gr.go (len : Nat) (S : Nat → ByteArray) (T : Nat) (G : Gr) (t : Int) (z : Nat → Int) : Gr := if 0 ≤ t ∧ t < (T : Int) then G.next len S t.toNat z else G

theorem Gr.did_n (G : Gr) (t : Nat) (z : Nat → Int) : (G.did t z).n ≤ G.n + 1 ∧ G.n ≤ (G.did t z).n := by
  unfold Gr.did
  split
  · exact ⟨Nat.le_refl _, Nat.le_succ _⟩
  (repeat' split) <;> exact ⟨Nat.le_succ _, Nat.le_refl _⟩

theorem Gr.next_n (G : Gr) (t : Nat) (z : Nat → Int) : (G.next len S t z).n ≤ G.n + 1 ∧ G.n ≤ (G.next len S t z).n := by
  unfold Gr.next
  split
  · exact Gr.did_n G t z
  · exact ⟨Nat.le_succ _, Nat.le_refl _⟩

theorem Gr.go_n (G : Gr) (t : Int) (z : Nat → Int) : (G.go len S T t z).n ≤ G.n + 1 ∧ G.n ≤ (G.go len S T t z).n := by
  unfold Gr.go
  split
  · exact Gr.next_n G _ z
  · exact ⟨Nat.le_succ _, Nat.le_refl _⟩

theorem do_any (H : IsG T sp len S w L G G.n) (hlen : len ≤ 9223372036854775807) (hS : ∀ i, i < len → (S i).size ≤ 9223372036854775807) (hn : G.n < 9223372036854775807) (t : Int) (z : Nat → Int) :
    Calls Try.prog 14 #[.pointer (some ⟨L.g, 0, none⟩), .int .i64 t, opV z] w fun e w' => e = .returned (.tuple #[.agg #[.int .i64 (G.aE len S T t z), .bool (G.aI len S T t z), .int .i64 (G.aV len S T t z)], .int .i64 (aF T t)]) ∧ (∃ L', Lay.Ext L L' w.heap.size ∧ IsG T sp len S w' L' (G.go len S T t z) ((G.go len S T t z).n : Nat)) ∧ Chg L.own w w' := by
  by_cases ht : 0 ≤ t ∧ t < (T : Int)
  · obtain ⟨t', rfl⟩ : ∃ n : Nat, t = (n : Int) := ⟨t.toNat, by omega⟩
    have ht' : t' < T := by omega
    have eE : G.aE len S T (t' : Int) z = G.err len S t' z := by unfold Gr.aE; rw [if_pos ht, Int.toNat_natCast]
    have eG : G.go len S T (t' : Int) z = G.next len S t' z := by unfold Gr.go; rw [if_pos ht, Int.toNat_natCast]
    have eF : aF T (t' : Int) = 0 := by unfold aF; rw [if_pos ht]
    by_cases h0 : opE len S z = 0
    · by_cases he : G.err len S t' z = 0
      · have eI : G.aI len S T (t' : Int) z = G.is t' z := by unfold Gr.aI; rw [if_pos ht, Int.toNat_natCast, if_pos he]
        have eV : G.aV len S T (t' : Int) z = G.val t' z := by unfold Gr.aV; rw [if_pos ht, Int.toNat_natCast, if_pos he]
        have eN : G.next len S t' z = G.did t' z := by unfold Gr.next; rw [if_pos he]
        rw [eE, eI, eV, eF, eG, eN, he]
        exact do_ok H hlen hS t' z ht' h0 hn he
      · have eI : G.aI len S T (t' : Int) z = false := by unfold Gr.aI; rw [if_pos ht, Int.toNat_natCast, if_neg he]
        have eV : G.aV len S T (t' : Int) z = 0 := by unfold Gr.aV; rw [if_pos ht, Int.toNat_natCast, if_neg he]
        have eN : G.next len S t' z = G := by unfold Gr.next; rw [if_neg he]
        rw [eE, eI, eV, eF, eG, eN]
        refine (do_no H hlen hS t' z ht' h0 he).mono ?_
        rintro e w' ⟨h1, h2⟩
        exact ⟨h1, ⟨L, Lay.Ext.refl _ _, H.below h2⟩, Chg.of h2⟩
    · have he : G.err len S t' z = opE len S z := by unfold Gr.err; rw [if_pos h0]
      have he0 : ¬ G.err len S t' z = 0 := by rw [he]; exact h0
      have eI : G.aI len S T (t' : Int) z = false := by unfold Gr.aI; rw [if_pos ht, Int.toNat_natCast, if_neg he0]
      have eV : G.aV len S T (t' : Int) z = 0 := by unfold Gr.aV; rw [if_pos ht, Int.toNat_natCast, if_neg he0]
      have eN : G.next len S t' z = G := by unfold Gr.next; rw [if_neg he0]
      rw [eE, eI, eV, eF, eG, eN, he]
      refine (do_check H hlen hS (t' : Int) z ht h0).mono ?_
      rintro e w' ⟨h1, h2⟩
      exact ⟨h1, ⟨L, Lay.Ext.refl _ _, H.below h2⟩, Chg.of h2⟩
  · have eE : G.aE len S T t z = 0 := by unfold Gr.aE; rw [if_neg ht]
    have eI : G.aI len S T t z = false := by unfold Gr.aI; rw [if_neg ht]
    have eV : G.aV len S T t z = 0 := by unfold Gr.aV; rw [if_neg ht]
    have eG : G.go len S T t z = G := by unfold Gr.go; rw [if_neg ht]
    have eF : aF T t = 4 := by unfold aF; rw [if_neg ht]
    rw [eE, eI, eV, eF, eG]
    refine (do_range H t z (by omega)).mono ?_
    rintro e w' ⟨h1, h2⟩
    exact ⟨h1, ⟨L, Lay.Ext.refl _ _, H.below h2⟩, Chg.of h2⟩
end
end Go.Proofs.Ytbkaopeajjechaa

namespace Go.Proofs.Ytbkaopeajjechaa
open Go.RowKit

/-- The rows' shapes; an operation by its numbers. -/
def wkS : Nat → ByteArray := fun i => if i = 0 then ⟨#[112, 115]⟩ else ⟨#[]⟩
def zl (l : List Int) : Nat → Int := fun i => l.getD i 0

theorem wk_T : okT 2 wkS := ⟨by omega, by omega, fun i hi => by
  obtain rfl | rfl : i = 0 ∨ i = 1 := by omega
  · refine ⟨by decide, fun j hj => ?_⟩
    have hj : j < 2 := hj
    obtain rfl | rfl : j = 0 ∨ j = 1 := by omega
    · exact .inl rfl
    · exact .inr rfl
  · refine ⟨by decide, fun j hj => ?_⟩
    have hj : j < 0 := hj
    omega⟩
theorem wk_P : okPB ((1 : Nat) : Int) 32 2 wkS = true := okPB_iff.2 ⟨by omega, by omega, wk_T⟩
theorem wk_B : okTB 2 wkS = true := okTB_iff.2 wk_T

theorem isE_val {len : Nat} {S : Nat → ByteArray} (h : okTB len S = true) {n f : Nat} (hn : n < len) (hf : f < (S n).size) (k : Int) : isE len S n f k = if kd (S n) f = k then 0 else 132 := by
  have h1 : ofE len S (n : Int) = 0 := by unfold ofE; rw [if_pos h, if_pos (by omega)]
  have h2 : kindE len S (n : Int) (f : Int) = 0 := by unfold kindE; rw [if_pos h1, Int.toNat_natCast, if_pos (by omega)]
  have h3 : kindV len S (n : Int) (f : Int) = kd (S n) f := by unfold kindV; rw [if_pos h2, Int.toNat_natCast, Int.toNat_natCast]
  unfold isE
  rw [h2, h3]
  by_cases e : kd (S n) f = k
  · rw [if_pos e, if_neg (by rintro ⟨_, h⟩; exact h e)]
  · rw [if_neg e, if_pos ⟨rfl, e⟩]

theorem go_ok {len : Nat} {S : Nat → ByteArray} {T : Nat} {G : Gr} {z : Nat → Int} (t : Nat) (ht : t < T) (he : G.err len S t z = 0) :
    G.aE len S T t z = 0 ∧ G.aI len S T t z = G.is t z ∧ G.aV len S T t z = G.val t z ∧ G.go len S T t z = G.did t z ∧ aF T t = 0 := by
  have h : 0 ≤ (t : Int) ∧ (t : Int) < (T : Int) := by omega
  unfold Gr.aE Gr.aI Gr.aV Gr.go aF Gr.next
  simp only [if_pos h, Int.toNat_natCast, he, if_true]
  refine ⟨?_, ?_, ?_, ?_, ?_⟩ <;> first | trivial | rfl
theorem go_er {len : Nat} {S : Nat → ByteArray} {T : Nat} {G : Gr} {z : Nat → Int} (t : Nat) (ht : t < T) (he : G.err len S t z ≠ 0) :
    G.aE len S T t z = G.err len S t z ∧ G.aI len S T t z = false ∧ G.aV len S T t z = 0 ∧ G.go len S T t z = G ∧ aF T t = 0 := by
  have h : 0 ≤ (t : Int) ∧ (t : Int) < (T : Int) := by omega
  unfold Gr.aE Gr.aI Gr.aV Gr.go aF Gr.next
  simp only [if_pos h, Int.toNat_natCast, he, if_false]
  refine ⟨?_, ?_, ?_, ?_, ?_⟩ <;> first | trivial | rfl

/-- An operation on an object's field that goes well, or not for its kind alone. -/
theorem err_fld {len : Nat} {S : Nat → ByteArray} {G : Gr} {z : Nat → Int} {t f : Nat} (h0 : opE len S z = 0) (h1 : 2 ≤ z 0) (h2 : z 0 ≤ 7) (hr : G.root t (z 1).toNat ≠ 0) (hs : G.sh (G.root t (z 1).toNat) < len) (hf : z 4 = (f : Int)) (hl : f < (S (G.sh (G.root t (z 1).toNat))).size) (hB : okTB len S = true) :
    G.err len S t z = if kd (S (G.sh (G.root t (z 1).toNat))) f = fldK (z 0) then 0 else 132 := by
  unfold Gr.err
  rw [if_neg (by rw [h0]; simp), if_neg (by omega), if_neg hr, hf]
  exact isE_val hB hs hl _
theorem err_slot {len : Nat} {S : Nat → ByteArray} {G : Gr} {z : Nat → Int} {t : Nat} (h0 : opE len S z = 0) (h1 : z 0 = 1 ∨ 8 ≤ z 0) : G.err len S t z = 0 := by
  unfold Gr.err
  rw [if_neg (by rw [h0]; simp), if_pos h1]

def wk0 : Gr := Gr.new
def wk1 : Gr := wk0.did 0 (zl [1])
def wk2 : Gr := wk1.did 0 (zl [1, 1, 0, 0, 0, 1])
def wk3 : Gr := wk2.did 0 (zl [3, 0, 1])
def wk4 : Gr := wk3.did 0 (zl [2, 0, 2])
def wk5 : Gr := wk4.did 0 (zl [4, 0, 2, 3])

theorem wk_op1 : opE 2 wkS (zl [1]) = 0 := (opE_of wk_B (bareB_iff.2 ⟨by decide, by decide⟩) (by unfold slotP; decide) rfl).trans (by unfold ofE; rw [if_pos wk_B, if_pos (by decide)])
theorem wk_op2 : opE 2 wkS (zl [1, 1, 0, 0, 0, 1]) = 0 := (opE_of wk_B (bareB_iff.2 ⟨by decide, by decide⟩) (by unfold slotP; decide) rfl).trans (by unfold ofE; rw [if_pos wk_B, if_pos (by decide)])
theorem wk_op3 : opE 2 wkS (zl [3, 0, 1]) = 0 := opE_0 wk_B (bareB_iff.2 ⟨by decide, by decide⟩) (by unfold slotP; decide) (by decide) (by unfold valP; decide)
theorem wk_op4 : opE 2 wkS (zl [2, 0, 2]) = 0 := opE_0 wk_B (bareB_iff.2 ⟨by decide, by decide⟩) (by unfold slotP; decide) (by decide) (by unfold valP; decide)
theorem wk_op5 : opE 2 wkS (zl [4, 0, 2, 3]) = 0 := opE_0 wk_B (bareB_iff.2 ⟨by decide, by decide⟩) (by unfold slotP; decide) (by decide) (by unfold valP; decide)
theorem wk_op6 : opE 2 wkS (zl [5]) = 0 := opE_0 wk_B (bareB_iff.2 ⟨by decide, by decide⟩) (by unfold slotP; decide) (by decide) (by unfold valP; decide)

theorem wk_e1 : wk0.err 2 wkS 0 (zl [1]) = 0 := err_slot wk_op1 (.inl rfl)
theorem wk_e2 : wk1.err 2 wkS 0 (zl [1, 1, 0, 0, 0, 1]) = 0 := err_slot wk_op2 (.inl rfl)
theorem wk_e3 : wk2.err 2 wkS 0 (zl [3, 0, 1]) = 0 := (err_fld (f := 0) wk_op3 (by decide) (by decide) (by decide) (by decide) rfl (by decide) wk_B).trans (by decide)
theorem wk_e4 : wk3.err 2 wkS 0 (zl [2, 0, 2]) = 0 := (err_fld (f := 0) wk_op4 (by decide) (by decide) (by decide) (by decide) rfl (by decide) wk_B).trans (by decide)
theorem wk_e5 : wk4.err 2 wkS 0 (zl [4, 0, 2, 3]) = 0 := (err_fld (f := 0) wk_op5 (by decide) (by decide) (by decide) (by decide) rfl (by decide) wk_B).trans (by decide)
theorem wk_e6 : wk5.err 2 wkS 0 (zl [5]) = 132 := (err_fld (f := 0) wk_op6 (by decide) (by decide) (by decide) (by decide) rfl (by decide) wk_B).trans (by decide)

theorem wk_r1 : wk0.aE 2 wkS 1 0 (zl [1]) = 0 ∧ wk0.aI 2 wkS 1 0 (zl [1]) = false ∧ wk0.aV 2 wkS 1 0 (zl [1]) = 0 ∧ wk0.go 2 wkS 1 0 (zl [1]) = wk1 ∧ aF 1 0 = 0 := go_ok 0 (by omega) wk_e1
theorem wk_r2 : wk1.aE 2 wkS 1 0 (zl [1, 1, 0, 0, 0, 1]) = 0 ∧ wk1.aI 2 wkS 1 0 (zl [1, 1, 0, 0, 0, 1]) = false ∧ wk1.aV 2 wkS 1 0 (zl [1, 1, 0, 0, 0, 1]) = 0 ∧ wk1.go 2 wkS 1 0 (zl [1, 1, 0, 0, 0, 1]) = wk2 ∧ aF 1 0 = 0 := go_ok 0 (by omega) wk_e2
theorem wk_r3 : wk2.aE 2 wkS 1 0 (zl [3, 0, 1]) = 0 ∧ wk2.aI 2 wkS 1 0 (zl [3, 0, 1]) = false ∧ wk2.aV 2 wkS 1 0 (zl [3, 0, 1]) = 0 ∧ wk2.go 2 wkS 1 0 (zl [3, 0, 1]) = wk3 ∧ aF 1 0 = 0 := go_ok 0 (by omega) wk_e3
theorem wk_r4 : wk3.aE 2 wkS 1 0 (zl [2, 0, 2]) = 0 ∧ wk3.aI 2 wkS 1 0 (zl [2, 0, 2]) = true ∧ wk3.aV 2 wkS 1 0 (zl [2, 0, 2]) = 0 ∧ wk3.go 2 wkS 1 0 (zl [2, 0, 2]) = wk4 ∧ aF 1 0 = 0 := go_ok 0 (by omega) wk_e4
theorem wk_r5 : wk4.aE 2 wkS 1 0 (zl [4, 0, 2, 3]) = 0 ∧ wk4.aI 2 wkS 1 0 (zl [4, 0, 2, 3]) = true ∧ wk4.aV 2 wkS 1 0 (zl [4, 0, 2, 3]) = 0 ∧ wk4.go 2 wkS 1 0 (zl [4, 0, 2, 3]) = wk5 ∧ aF 1 0 = 0 := go_ok 0 (by omega) wk_e5
theorem wk_r6 : wk5.aE 2 wkS 1 0 (zl [5]) = 132 ∧ wk5.aI 2 wkS 1 0 (zl [5]) = false ∧ wk5.aV 2 wkS 1 0 (zl [5]) = 0 ∧ wk5.go 2 wkS 1 0 (zl [5]) = wk5 ∧ aF 1 0 = 0 := by
  have := go_er (T := 1) (G := wk5) (z := zl [5]) 0 (by omega) (by rw [wk_e6]; decide)
  rw [wk_e6] at this
  exact this
theorem wk_w : wordsOf wkS wk5 (wk5.reach 1 wkS) = 6 := by decide
theorem wk_n : wk5.n = 3 := by decide
end Go.Proofs.Ytbkaopeajjechaa

namespace Go.Proofs.Ytbkaopeajjechaa
open Go.RowKit Go.Maps

def strV : Value → ByteArray
  | .string s => s
  | _ => ⟨#[]⟩

theorem ShOk.of_row {w : World} {n : Nat} {A : Option Addr} {len cap : Nat} (h : RowOk w n [.str] A len cap) : ∃ S, ShOk w A len S ∧ ∀ i, i < len → (S i).size ≤ maxLen := by
  obtain ⟨g, o, f, hA, hc⟩ := h.open_
  have hs : ∀ i, i < len → w.cell? ⟨g, o + i, none⟩ = some (.string (strV (f i 0))) ∧ (strV (f i 0)).size ≤ maxLen := fun i hi => by
    obtain ⟨h1, h0⟩ := hc i hi 0 .str rfl
    obtain ⟨s, h2, h3⟩ := Leaf.ok_str h0
    simp only [List.length_cons, List.length_nil, Nat.zero_add, Nat.mul_one, Nat.add_zero] at h1
    rw [h1, h2]
    exact ⟨rfl, h3⟩
  exact ⟨fun i => strV (f i 0), fun hl => ⟨g, o, (hA hl).1, (hA hl).2, fun i hi => (hs i hi).1⟩, fun i hi => (hs i hi).2⟩

/-- No more shapes, no more operations than are looked at. -/
def fewP (len : Nat) (S : Nat → ByteArray) (n most : Nat) : Prop := n ≤ most ∧ len ≤ 20 ∧ ∀ i, i < len → (S i).size ≤ 20
open Classical in
noncomputable def fewB (len : Nat) (S : Nat → ByteArray) (n most : Nat) : Bool := decide (fewP len S n most)
theorem fewB_iff {len : Nat} {S : Nat → ByteArray} {n most : Nat} : fewB len S n most = true ↔ fewP len S n most := by unfold fewB; simp

theorem num_any (v : Int) (w : World) : Calls Try.prog 12 #[.int .i64 v] w fun e w' => e = .returned (.int .i64 v) ∧ w = w' := by
  go_enter Try.func12, Try.ntmps12
  go_wp2
  go_ret
  exact ⟨rfl, rfl⟩

set_option maxHeartbeats 2000000 in
theorem few_any (t sp : Int) (A : Option Addr) (len cap : Nat) (S : Nat → ByteArray) (B : Option Addr) (n bc most : Nat) (_ : n ≤ 9223372036854775807) (_ : most ≤ 100) (hlen : len ≤ 9223372036854775807) (w : World) (H : ShOk w A len S) (hS : ∀ i, i < len → (S i).size ≤ maxLen) :
    Calls Try.prog 11 #[.agg #[.int .i64 t, .int .i64 sp, .slice A len cap], .slice B n bc, .int .i64 (most : Int)] w fun e w' => e = .returned (.bool (fewB len S n most)) ∧ Below w.heap.size w w' := by
  by_cases h0 : most < n
  · have hr := hide (show fewB len S n most = false by rw [Bool.eq_false_iff, Ne, fewB_iff]; exact fun h => by have := h.1; omega)
    rw [unhide hr]
    go_enter Try.func11, Try.ntmps11
    go_wp2
    go_ret
    exact ⟨rfl, by repeat (first | exact Below.refl _ _ | assumption | refine Below.alloc ?_ (by first | (simp; done) | (simp; omega) | omega) _ | refine Below.setCell ?_ (by first | (simp; done) | (simp; omega) | omega) _ | apply Below.drew | refine Below.trans ?_ (Below.mono (by assumption) (by first | (simp; done) | (simp; omega) | omega)))⟩
  by_cases h1 : 20 < len
  · have hr := hide (show fewB len S n most = false by rw [Bool.eq_false_iff, Ne, fewB_iff]; exact fun h => by have := h.2.1; omega)
    rw [unhide hr]
    go_enter Try.func11, Try.ntmps11
    go_wp2
    go_ret
    exact ⟨rfl, by repeat (first | exact Below.refl _ _ | assumption | refine Below.alloc ?_ (by first | (simp; done) | (simp; omega) | omega) _ | refine Below.setCell ?_ (by first | (simp; done) | (simp; omega) | omega) _ | apply Below.drew | refine Below.trans ?_ (Below.mono (by assumption) (by first | (simp; done) | (simp; omega) | omega)))⟩
  have h0b : n ≤ most := by omega
  have h1b : len ≤ 20 := by omega
  have HC := hide (fun U (hU : Below w.heap.size w U) => H.keep hU)
  have HSz := hide hS
  have hy : Hid ((∀ i, i < len → (S i).size ≤ 20) → fewB len S n most = true) := hide (fun h => fewB_iff.2 ⟨h0b, h1b, h⟩)
  have hn : Hid (∀ i, i < len → 20 < (S i).size → fewB len S n most = false) := hide (fun i hi h => by
    rw [Bool.eq_false_iff, Ne, fewB_iff]
    exact fun hh => by have := hh.2.2 i hi; omega)
  generalize fewB len S n most = R at hy hn ⊢
  clear hS H
  go_enter Try.func11, Try.ntmps11
  go_wp2
  go_loopw [7] (fun i wr => ∃ k : Nat, k ≤ len ∧ i = .int .i64 k ∧ Hid (∀ j, j < k → (S j).size ≤ 20) ∧ wr = w.alloc (.cells #[.int .i64 t, .int .i64 sp, .slice A len cap] 24)) (fun i _ => len - (intOf i).toNat)
  case atStart => exact ⟨0, Nat.zero_le _, rfl, hide (fun j hj => by omega), rfl⟩
  case round =>
    obtain ⟨k, hk, rfl, HK, rfl⟩ := hrel
    by_cases hlt : k < len
    · obtain ⟨g, o, rfl, hg, hc⟩ := unhide HC w (Below.refl _ _) (by omega)
      have hcell : (w.alloc (.cells #[.int .i64 t, .int .i64 sp, .slice (some ⟨g, o, none⟩) len cap] 24)).cell? ⟨g, o + k, none⟩ = some (.string (S k)) := (World.cell?_alloc_lt _ _ _ hg).trans (hc k hlt)
      have hsz := unhide HSz k hlt
      unfold maxLen at hsz
      have b0 : (0 : Int) ≤ (k : Int) := by omega
      have b1 : (k : Int) < (len : Int) := by omega
      clear hc
      by_cases h2 : 20 < (S k).size
      · have hres := unhide hn k hlt h2
        subst hres
        go_wp2
        go_ret
        exact ⟨rfl, by repeat (first | exact Below.refl _ _ | assumption | refine Below.alloc ?_ (by first | (simp; done) | (simp; omega) | omega) _ | refine Below.setCell ?_ (by first | (simp; done) | (simp; omega) | omega) _ | apply Below.drew | refine Below.trans ?_ (Below.mono (by assumption) (by first | (simp; done) | (simp; omega) | omega)))⟩
      · have h3 : (S k).size ≤ 20 := by omega
        have HK2 : Hid (∀ j, j < k + 1 → (S j).size ≤ 20) := hide (fun j hj => by
          by_cases e : j = k
          · subst e; exact h3
          · exact unhide HK j (by omega))
        go_wp2
        go_roundw
        case measure => simp [intOf]; omega
        case rel => exact ⟨k + 1, by omega, by go_num, HK2, by trivial⟩
    · have hres := unhide hy (fun i hi => unhide HK i (by omega))
      subst hres
      go_wp2
      go_ret
      exact ⟨rfl, by repeat (first | exact Below.refl _ _ | assumption | refine Below.alloc ?_ (by first | (simp; done) | (simp; omega) | omega) _ | refine Below.setCell ?_ (by first | (simp; done) | (simp; omega) | omega) _ | apply Below.drew | refine Below.trans ?_ (Below.mono (by assumption) (by first | (simp; done) | (simp; omega) | omega)))⟩

/-- The rows' graph and what its operations were answered. -/
structure Wk (w w' : World) (L : Lay) (G : Gr) (l : List (Nat × Array Value)) : Prop where
  g : IsG 1 32 2 wkS w' L G (G.n : Nat)
  b : Below w.heap.size w w'
  base : ∀ b, L.own b → w.heap.size ≤ b
  outs : ∀ p ∈ l, w'.heap[p.1]? = some (Obj.cells p.2 39 (0, 0)) ∧ ¬ L.own p.1

theorem wk_new (w : World) : Calls Try.prog 10 #[.agg #[.int .i64 1, .int .i64 32, .slice (some ⟨w.heap.size, 0, none⟩) 2 2]] (w.alloc (.cells #[.string ⟨#[112, 115]⟩, .string ⟨#[]⟩] 65))
    fun e w' => ∃ L, e = .returned (.tuple #[.pointer (some ⟨L.g, 0, none⟩), .int .i64 0]) ∧ Wk w w' L wk0 [] := by
  have hs : ShOk (w.alloc (.cells #[.string ⟨#[112, 115]⟩, .string ⟨#[]⟩] 65)) (some ⟨w.heap.size, 0, none⟩) 2 wkS := fun _ => ⟨_, 0, rfl, by simp, fun i hi => by
    obtain rfl | rfl : i = 0 ∨ i = 1 := by omega
    · exact (World.cell?_alloc_new w _ _ _).trans rfl
    · exact (World.cell?_alloc_new w _ _ _).trans rfl⟩
  refine (new_ok (T := 1) (sp := 32) (len := 2) (S := wkS) (some ⟨w.heap.size, 0, none⟩) 2 _ hs wk_P).mono ?_
  rintro e w' ⟨L, he, hg, hb, ho, _⟩
  refine ⟨L, he, hg, ((Below.refl _ _).alloc (Nat.le_refl _) _).trans (hb.mono (by simp)), fun b hb' => ?_, fun p hp => by cases hp⟩
  have := ho b hb'
  simp at this
  omega

theorem wk_step {w w1 : World} {L : Lay} {G G' : Gr} {l : List (Nat × Array Value)} (H : Wk w w1 L G l) {g : Nat} (hg : L.g = g) {z : Nat → Int} {e0 : Int} {b0 : Bool} {o : Value} (ho : opV z = o) (hn : G.n ≤ 1000)
    (h : G.aE 2 wkS 1 0 z = e0 ∧ G.aI 2 wkS 1 0 z = b0 ∧ G.aV 2 wkS 1 0 z = 0 ∧ G.go 2 wkS 1 0 z = G' ∧ aF 1 0 = 0) :
    Calls Try.prog 14 #[.pointer (some ⟨g, 0, none⟩), .int .i64 0, o] w1 fun e w' => e = .returned (.tuple #[.agg #[.int .i64 e0, .bool b0, .int .i64 0], .int .i64 0]) ∧
      ∃ L', L'.g = g ∧ Wk w (w'.alloc (.cells #[.int .i64 e0, .bool b0, .int .i64 0] 39)) L' G' ((w'.heap.size, #[.int .i64 e0, .bool b0, .int .i64 0]) :: l) := by
  subst hg
  subst ho
  have hS : ∀ i, i < 2 → (wkS i).size ≤ 9223372036854775807 := fun i hi => by have := (wk_T.2.2 i hi).1; omega
  have hd := do_any H.g (by omega) hS (by omega) 0 z
  rw [h.1, h.2.1, h.2.2.1, h.2.2.2.1, h.2.2.2.2] at hd
  refine hd.mono ?_
  rintro e w' ⟨rfl, ⟨L', hE, hG'⟩, hC⟩
  have hbn : Below w'.heap.size w' (w'.alloc (.cells #[.int .i64 e0, .bool b0, .int .i64 0] 39)) := (Below.refl _ _).alloc (Nat.le_refl _) _
  have hz := hC.size
  have hz1 := H.b.size
  refine ⟨rfl, L', hE.g, hG'.below hbn, ?_, fun b hb => ?_, fun p hp => ?_⟩
  · exact (Chg.then_below H.b hC H.base hz1).trans (hbn.mono (by omega))
  · rcases hE.own b hb with h1 | h1
    · exact H.base b h1
    · omega
  · rcases List.mem_cons.1 hp with rfl | hp
    · exact ⟨(MapKept.heap_alloc w' _).1, fun hh => by have := hG'.lt _ hh; simp at this⟩
    · obtain ⟨h1, h2⟩ := H.outs p hp
      have hl := (Array.getElem?_eq_some_iff.1 h1).1
      refine ⟨(hbn.block p.1 (by omega)).trans ((hC.block p.1 hl h2).trans h1), fun hh => ?_⟩
      rcases hE.own _ hh with h3 | h3
      · exact h2 h3
      · omega

theorem Wk.cells {w w' : World} {L : Lay} {G : Gr} {l : List (Nat × Array Value)} (H : Wk w w' L G l) {b : Nat} {e0 : Int} {b0 : Bool} {v0 : Int} (h : (b, #[.int .i64 e0, .bool b0, .int .i64 v0]) ∈ l) :
    w'.cell? ⟨b, 0, none⟩ = some (.int .i64 e0) ∧ w'.cell? ⟨b, 1, none⟩ = some (.bool b0) ∧ w'.cell? ⟨b, 2, none⟩ = some (.int .i64 v0) := by
  have h := (H.outs _ h).1
  refine ⟨?_, ?_, ?_⟩ <;> · rw [Lib.cell_of_heap h]; rfl

set_option maxRecDepth 100000 in
set_option maxHeartbeats 4000000 in
theorem works09_any (w : World) : Calls Try.prog 13 #[] w fun e w' => e = .returned (.bool true) ∧ Below w.heap.size w w' := by
  go_enter Try.func13, Try.ntmps13
  go_wp2_with fail
  refine (wk_new w).mono ?_
  rintro e w1 ⟨L0, rfl, h0⟩
  have H0 := hide h0
  generalize hg0 : L0.g = g
  clear h0
  go_wp2_with fail
  refine (wk_step (unhide H0) hg0 rfl (by decide) wk_r1).mono ?_
  rintro e w2 ⟨rfl, L1, hg1, h1⟩
  have H1 := hide h1
  clear h1 H0 hg0 L0
  go_wp2_with fail
  refine (wk_step (unhide H1) hg1 rfl (by decide) wk_r2).mono ?_
  rintro e w3 ⟨rfl, L2, hg2, h2⟩
  have H2 := hide h2
  clear h2 H1 hg1 L1
  go_wp2_with fail
  refine (wk_step (unhide H2) hg2 rfl (by decide) wk_r3).mono ?_
  rintro e w4 ⟨rfl, L3, hg3, h3⟩
  have H3 := hide h3
  clear h3 H2 hg2 L2
  go_wp2_with fail
  refine (wk_step (unhide H3) hg3 rfl (by decide) wk_r4).mono ?_
  rintro e w5 ⟨rfl, L4, hg4, h4⟩
  have H4 := hide h4
  clear h4 H3 hg3 L3
  go_wp2_with fail
  refine (wk_step (unhide H4) hg4 rfl (by decide) wk_r5).mono ?_
  rintro e w6 ⟨rfl, L5, hg5, h5⟩
  have H5 := hide h5
  clear h5 H4 hg4 L4
  go_wp2_with fail
  refine (wk_step (unhide H5) hg5 rfl (by decide) wk_r6).mono ?_
  rintro e w7 ⟨rfl, L6, hg6, h6⟩
  have H6 := hide h6
  clear h6 H5 hg5 L5
  go_wp2_with fail
  have hOG := (unhide H6).g
  obtain ⟨d10, d11, d12⟩ := (unhide H6).cells (b := w2.heap.size) (e0 := 0) (b0 := false) (v0 := 0) (by simp)
  obtain ⟨d20, d21, d22⟩ := (unhide H6).cells (b := w3.heap.size) (e0 := 0) (b0 := false) (v0 := 0) (by simp)
  obtain ⟨d30, d31, d32⟩ := (unhide H6).cells (b := w4.heap.size) (e0 := 0) (b0 := false) (v0 := 0) (by simp)
  obtain ⟨d40, d41, d42⟩ := (unhide H6).cells (b := w5.heap.size) (e0 := 0) (b0 := true) (v0 := 0) (by simp)
  obtain ⟨d50, d51, d52⟩ := (unhide H6).cells (b := w6.heap.size) (e0 := 0) (b0 := true) (v0 := 0) (by simp)
  obtain ⟨d60, d61, d62⟩ := (unhide H6).cells (b := w7.heap.size) (e0 := 132) (b0 := false) (v0 := 0) (by simp)
  have HB := hide (unhide H6).b
  generalize hW : w7.alloc (.cells #[.int .i64 132, .bool false, .int .i64 0] 39) = W at *
  clear hW H6
  subst hg6
  go_wp2_with (first | (go_at_call 12; refine (num_any _ _).mono ?_; rintro e w' ⟨rfl, rfl⟩))
  refine (made_g hOG).mono ?_
  rintro e w' ⟨rfl, rfl⟩
  rw [wk_n]
  go_wp2_with fail
  have hw := words_any hOG (by rw [wk_n]; omega) (fun i hi => (wk_T.2.2 i hi).1) (by omega)
  rw [wk_w] at hw
  refine hw.mono ?_
  rintro e w8 ⟨rfl, hb8⟩
  clear hOG hw
  go_wp2
  go_ret
  exact ⟨rfl, (unhide HB).trans (hb8.mono (unhide HB).size)⟩
end Go.Proofs.Ytbkaopeajjechaa
