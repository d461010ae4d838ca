/- Package history: arguments opened; the chapter's rows. -/
import Derived.Test.YtahfoogcdgjimaaHsM
import Derived.Test.YtahfoogcdgjimaaOp
namespace Go.Proofs.Ytahfoogcdgjimaa
set_option linter.unusedVariables false
set_option linter.unusedSimpArgs false
open Go.RowKit

def boolV : Value → Bool
  | .bool b => b
  | _ => false

theorem CallOk.of_row {w : World} {n : Nat} {A : Option Addr} {len cap : Nat} (h : RowOk w n [.int .i64, .int .i64, .int .i64, .int .i64, .int .i64, .int .i64, .int .i64, .int .i64, .int .i64, .int .i64, .bool, .int .i64, .int .i64, .int .i64, .bool] A len cap) :
    ∃ c b d, CallOk w A len c b d ∧ ∀ k j, k < len → j = 0 ∨ j = 12 ∨ j = 13 → (Lit.int .i64 (c k j)).wf = true := by
  obtain ⟨g, o, f, hA, hc⟩ := h.open_
  have hi : ∀ i, i < len → ∀ j, [Leaf.int .i64, .int .i64, .int .i64, .int .i64, .int .i64, .int .i64, .int .i64, .int .i64, .int .i64, .int .i64, .bool, .int .i64, .int .i64, .int .i64, .bool][j]? = some (.int .i64) → w.cell? ⟨g, o + (i * 15 + j), none⟩ = some (.int .i64 (intOf (f i j))) ∧ (Lit.int .i64 (intOf (f i j))).wf = true := fun i hi j hj => by
    obtain ⟨h1, h2⟩ := hc i hi j _ hj
    obtain ⟨m, e, hw⟩ := Leaf.ok_int h2
    rw [e] at h1 ⊢
    exact ⟨h1, hw⟩
  have hb : ∀ i, i < len → ∀ j, [Leaf.int .i64, .int .i64, .int .i64, .int .i64, .int .i64, .int .i64, .int .i64, .int .i64, .int .i64, .int .i64, .bool, .int .i64, .int .i64, .int .i64, .bool][j]? = some .bool → w.cell? ⟨g, o + (i * 15 + j), none⟩ = some (.bool (boolV (f i j))) := fun i hi j hj => by
    obtain ⟨h1, h2⟩ := hc i hi j _ hj
    obtain ⟨m, e⟩ := Leaf.ok_bool h2
    rw [e] at h1 ⊢
    exact h1
  refine ⟨fun i j => intOf (f i j), fun i => boolV (f i 10), fun i => boolV (f i 14), fun hl => ⟨g, o, (hA hl).1, (hA hl).2, fun i h => ?_⟩, fun k j hk hj => ?_⟩
  · exact ⟨(hi i h 0 rfl).1, (hi i h 1 rfl).1, (hi i h 2 rfl).1, (hi i h 3 rfl).1, (hi i h 4 rfl).1, (hi i h 5 rfl).1, (hi i h 6 rfl).1, (hi i h 7 rfl).1, (hi i h 8 rfl).1, (hi i h 9 rfl).1, hb i h 10 rfl, (hi i h 11 rfl).1, (hi i h 12 rfl).1, (hi i h 13 rfl).1, hb i h 14 rfl⟩
  · rcases hj with rfl | rfl | rfl
    · exact (hi k hk 0 rfl).2
    · exact (hi k hk 12 rfl).2
    · exact (hi k hk 13 rfl).2

def cT : Nat → Nat → Int
  | 0, 13 => 3
  | 1, 0 => 1
  | 1, 12 => 1
  | 1, 13 => 2
  | 2, 0 => 1
  | 2, 12 => 4
  | _, _ => 0
def bT (_ : Nat) : Bool := false
def dT : Nat → Bool
  | 0 => true
  | 1 => true
  | _ => false
def cX : Nat → Nat → Int
  | 0, 13 => 3
  | 1, 12 => 2
  | 1, 13 => 4
  | _, _ => 0
def dX (_ : Nat) : Bool := true

theorem told10_any (w : World) : Calls Try.prog 23 #[] w fun e w' => e = .returned (.slice (some ⟨w.heap.size, 0, none⟩) 3 3) ∧ CallOk w' (some ⟨w.heap.size, 0, none⟩) 3 cT bT dT ∧ Below w.heap.size w w' := by
  go_enter Try.func23, Try.ntmps23
  go_wp2
  go_ret
  refine ⟨rfl, fun _ => ⟨w.heap.size, 0, rfl, by simp, fun i hi => ?_⟩, by repeat (first | exact Below.refl _ _ | assumption | refine Below.alloc ?_ (by first | (simp; done) | (simp; omega) | omega) _ | refine Below.setCell ?_ (by first | (simp; done) | (simp; omega) | omega) _ | apply Below.drew | refine Below.trans ?_ (Below.mono (by assumption) (by first | (simp; done) | (simp; omega) | omega)))⟩
  match i, hi with
  | 0, _ => refine ⟨?_, ?_, ?_, ?_, ?_, ?_, ?_, ?_, ?_, ?_, ?_, ?_, ?_, ?_, ?_⟩ <;> exact (World.cell?_alloc_new w _ _ _).trans rfl
  | 1, _ => refine ⟨?_, ?_, ?_, ?_, ?_, ?_, ?_, ?_, ?_, ?_, ?_, ?_, ?_, ?_, ?_⟩ <;> exact (World.cell?_alloc_new w _ _ _).trans rfl
  | 2, _ => refine ⟨?_, ?_, ?_, ?_, ?_, ?_, ?_, ?_, ?_, ?_, ?_, ?_, ?_, ?_, ?_⟩ <;> exact (World.cell?_alloc_new w _ _ _).trans rfl

theorem chkT : chkI cT bT dT 2 3 = 0 := by
  unfold chkI
  rw [if_neg (by omega), if_neg (by omega), if_pos (by unfold HistTo; decide)]
theorem chkX : chkI cX bT dX 2 2 = 200 := by
  unfold chkI
  rw [if_neg (by omega), if_neg (by omega), if_neg (by unfold HistTo; decide)]
theorem wfT : ∀ k j, k < 3 → j = 0 ∨ j = 12 ∨ j = 13 → (Lit.int .i64 (cT k j)).wf = true := by
  intro k j hk hj
  match k, hk with
  | 0, _ => rcases hj with rfl | rfl | rfl <;> decide
  | 1, _ => rcases hj with rfl | rfl | rfl <;> decide
  | 2, _ => rcases hj with rfl | rfl | rfl <;> decide
theorem wfX : ∀ k j, k < 2 → j = 0 ∨ j = 12 ∨ j = 13 → (Lit.int .i64 (cX k j)).wf = true := by
  intro k j hk hj
  match k, hk with
  | 0, _ => rcases hj with rfl | rfl | rfl <;> decide
  | 1, _ => rcases hj with rfl | rfl | rfl <;> decide
theorem atT : plc (pAt cT dT 2) 3 = [0, 1] := by decide
theorem opT : plc (pOp dT) 3 = [2] := by decide
theorem cutT : plN (pCut cT 2) 3 = [0, 1] := by decide
theorem mostT : mostI cT dT 3 3 = 2 := by decide

theorem xRow (W : World) (n : Nat) (hn : W.heap.size = n) (xs : Array Value) (hx : xs = #[.int .i64 0, .int .i64 0, .int .i64 0, .int .i64 0, .int .i64 0, .int .i64 0, .int .i64 0, .int .i64 0, .int .i64 0, .int .i64 0, .bool false, .int .i64 0, .int .i64 0, .int .i64 3, .bool true, .int .i64 0, .int .i64 0, .int .i64 0, .int .i64 0, .int .i64 0, .int .i64 0, .int .i64 0, .int .i64 0, .int .i64 0, .int .i64 0, .bool false, .int .i64 0, .int .i64 2, .int .i64 4, .bool true]) (t : TypeId) : CallOk (W.alloc (.cells xs t)) (some ⟨n, 0, none⟩) 2 cX bT dX := by
  subst hn hx
  refine fun _ => ⟨_, 0, rfl, by simp, fun i hi => ?_⟩
  match i, hi with
  | 0, _ => refine ⟨?_, ?_, ?_, ?_, ?_, ?_, ?_, ?_, ?_, ?_, ?_, ?_, ?_, ?_, ?_⟩ <;> exact (World.cell?_alloc_new W _ _ _).trans rfl
  | 1, _ => refine ⟨?_, ?_, ?_, ?_, ?_, ?_, ?_, ?_, ?_, ?_, ?_, ?_, ?_, ?_, ?_⟩ <;> exact (World.cell?_alloc_new W _ _ _).trans rfl

/-- The cells of calls 1 and 2. -/
def TCells (w : World) (B : Nat) : Prop := w.cell? ⟨B, 15, none⟩ = some (.int .i64 1) ∧ w.cell? ⟨B, 16, none⟩ = some (.int .i64 0) ∧ w.cell? ⟨B, 17, none⟩ = some (.int .i64 0) ∧ w.cell? ⟨B, 18, none⟩ = some (.int .i64 0) ∧ w.cell? ⟨B, 19, none⟩ = some (.int .i64 0) ∧ w.cell? ⟨B, 20, none⟩ = some (.int .i64 0) ∧ w.cell? ⟨B, 21, none⟩ = some (.int .i64 0) ∧ w.cell? ⟨B, 22, none⟩ = some (.int .i64 0) ∧ w.cell? ⟨B, 23, none⟩ = some (.int .i64 0) ∧ w.cell? ⟨B, 24, none⟩ = some (.int .i64 0) ∧ w.cell? ⟨B, 25, none⟩ = some (.bool false) ∧ w.cell? ⟨B, 26, none⟩ = some (.int .i64 0) ∧ w.cell? ⟨B, 27, none⟩ = some (.int .i64 1) ∧ w.cell? ⟨B, 28, none⟩ = some (.int .i64 2) ∧ w.cell? ⟨B, 29, none⟩ = some (.bool true) ∧ w.cell? ⟨B, 30, none⟩ = some (.int .i64 1) ∧ w.cell? ⟨B, 31, none⟩ = some (.int .i64 0) ∧ w.cell? ⟨B, 32, none⟩ = some (.int .i64 0) ∧ w.cell? ⟨B, 33, none⟩ = some (.int .i64 0) ∧ w.cell? ⟨B, 34, none⟩ = some (.int .i64 0) ∧ w.cell? ⟨B, 35, none⟩ = some (.int .i64 0) ∧ w.cell? ⟨B, 36, none⟩ = some (.int .i64 0) ∧ w.cell? ⟨B, 37, none⟩ = some (.int .i64 0) ∧ w.cell? ⟨B, 38, none⟩ = some (.int .i64 0) ∧ w.cell? ⟨B, 39, none⟩ = some (.int .i64 0) ∧ w.cell? ⟨B, 40, none⟩ = some (.bool false) ∧ w.cell? ⟨B, 41, none⟩ = some (.int .i64 0) ∧ w.cell? ⟨B, 42, none⟩ = some (.int .i64 4) ∧ w.cell? ⟨B, 43, none⟩ = some (.int .i64 0) ∧ w.cell? ⟨B, 44, none⟩ = some (.bool false)

theorem tcells {w : World} {B : Nat} (H : CallOk w (some ⟨B, 0, none⟩) 3 cT bT dT) : B < w.heap.size ∧ TCells w B := by
  obtain ⟨g, o, e, hl, hc⟩ := H (by omega)
  injection e with e
  injection e with e1 e2 _
  subst e1 e2
  exact ⟨hl, ⟨(hc 1 (by omega)).1, (hc 1 (by omega)).2.1, (hc 1 (by omega)).2.2.1, (hc 1 (by omega)).2.2.2.1, (hc 1 (by omega)).2.2.2.2.1, (hc 1 (by omega)).2.2.2.2.2.1, (hc 1 (by omega)).2.2.2.2.2.2.1, (hc 1 (by omega)).2.2.2.2.2.2.2.1, (hc 1 (by omega)).2.2.2.2.2.2.2.2.1, (hc 1 (by omega)).2.2.2.2.2.2.2.2.2.1, (hc 1 (by omega)).2.2.2.2.2.2.2.2.2.2.1, (hc 1 (by omega)).2.2.2.2.2.2.2.2.2.2.2.1, (hc 1 (by omega)).2.2.2.2.2.2.2.2.2.2.2.2.1, (hc 1 (by omega)).2.2.2.2.2.2.2.2.2.2.2.2.2.1, (hc 1 (by omega)).2.2.2.2.2.2.2.2.2.2.2.2.2.2, (hc 2 (by omega)).1, (hc 2 (by omega)).2.1, (hc 2 (by omega)).2.2.1, (hc 2 (by omega)).2.2.2.1, (hc 2 (by omega)).2.2.2.2.1, (hc 2 (by omega)).2.2.2.2.2.1, (hc 2 (by omega)).2.2.2.2.2.2.1, (hc 2 (by omega)).2.2.2.2.2.2.2.1, (hc 2 (by omega)).2.2.2.2.2.2.2.2.1, (hc 2 (by omega)).2.2.2.2.2.2.2.2.2.1, (hc 2 (by omega)).2.2.2.2.2.2.2.2.2.2.1, (hc 2 (by omega)).2.2.2.2.2.2.2.2.2.2.2.1, (hc 2 (by omega)).2.2.2.2.2.2.2.2.2.2.2.2.1, (hc 2 (by omega)).2.2.2.2.2.2.2.2.2.2.2.2.2.1, (hc 2 (by omega)).2.2.2.2.2.2.2.2.2.2.2.2.2.2⟩⟩

theorem TCells.keep {w U : World} {B : Nat} (H : TCells w B) (hB : B < w.heap.size) (h : Below w.heap.size w U) : TCells U B := by
  have e : ∀ j, U.cell? ⟨B, j, none⟩ = w.cell? ⟨B, j, none⟩ := fun j => h.cell (p := ⟨B, j, none⟩) hB
  unfold TCells at H ⊢
  simp only [e]
  exact H

theorem aheadT (W : World) : Calls Try.prog 11 #[.agg #[.int .i64 1, .int .i64 0, .int .i64 0, .int .i64 0, .int .i64 0, .int .i64 0, .int .i64 0, .int .i64 0, .int .i64 0, .int .i64 0, .bool false, .int .i64 0, .int .i64 1, .int .i64 2, .bool true], .agg #[.int .i64 1, .int .i64 0, .int .i64 0, .int .i64 0, .int .i64 0, .int .i64 0, .int .i64 0, .int .i64 0, .int .i64 0, .int .i64 0, .bool false, .int .i64 0, .int .i64 4, .int .i64 0, .bool false]] W fun e w' => e = .returned (.bool true) ∧ Below W.heap.size W w' := by
  have h := ahead_any (cT 1) (bT 1) (dT 1) (cT 2) (bT 2) (dT 2) W
  rw [show ahdB (cT 1) (dT 1) (cT 2) = true by decide] at h
  exact h

theorem checkT (A : Option Addr) (W : World) (H : CallOk W A 3 cT bT dT) : Calls Try.prog 9 #[.slice A 3 3, .int .i64 2] W fun e w' => e = .returned (.int .i64 0) ∧ Below W.heap.size W w' := by
  have h := chk10_any A 3 3 cT bT dT 2 W H wfT
  rw [chkT] at h
  exact h
theorem checkX (A : Option Addr) (W : World) (H : CallOk W A 2 cX bT dX) : Calls Try.prog 9 #[.slice A 2 2, .int .i64 2] W fun e w' => e = .returned (.int .i64 200) ∧ Below W.heap.size W w' := by
  have h := chk10_any A 2 2 cX bT dX 2 W H wfX
  rw [chkX] at h
  exact h
theorem mostTT (A : Option Addr) (W : World) (H : CallOk W A 3 cT bT dT) : Calls Try.prog 12 #[.slice A 3 3] W fun e w' => e = .returned (.int .i64 2) ∧ Below W.heap.size W w' := by
  have h := most10_any A 3 3 cT bT dT (by omega) W H
  rw [mostT] at h
  exact h
/-- What At, Open and Cut leave in works. -/
def WAt (w' : World) (e : Ending) : Prop := ∃ B o c, e = .returned (.slice (some ⟨B, o, none⟩) 2 c) ∧ B < w'.heap.size ∧ w'.cell? ⟨B, o + 1, none⟩ = some (.int .i64 1)
def WOp (w' : World) (e : Ending) : Prop := ∃ B o c, e = .returned (.slice (some ⟨B, o, none⟩) 1 c) ∧ B < w'.heap.size ∧ w'.cell? ⟨B, o, none⟩ = some (.int .i64 2)
def WCut (w' : World) (e : Ending) : Prop := ∃ B c, e = .returned (.slice (some ⟨B, 0, none⟩) 2 c) ∧ B < w'.heap.size ∧ w'.cell? ⟨B, 14, none⟩ = some (.bool false) ∧ w'.cell? ⟨B, 29, none⟩ = some (.bool true)

theorem atTT (A : Option Addr) (W : World) (H : CallOk W A 3 cT bT dT) : Calls Try.prog 19 #[.slice A 3 3, .int .i64 2] W fun e w' => WAt w' e ∧ Below W.heap.size W w' := by
  have h := at_any A 3 3 cT bT dT 2 _ rfl (by omega) W H
  rw [atT] at h
  refine h.mono ?_
  rintro e w' ⟨A', c', rfl, hr, hb⟩
  obtain ⟨B, o, rfl, hl, hc⟩ := hr (by simp)
  exact ⟨⟨B, o, c', rfl, hl, hc 1 (by simp)⟩, hb⟩
theorem opTT (A : Option Addr) (W : World) (H : CallOk W A 3 cT bT dT) : Calls Try.prog 17 #[.slice A 3 3] W fun e w' => WOp w' e ∧ Below W.heap.size W w' := by
  have h := open_any A 3 3 cT bT dT _ rfl (by omega) W H
  rw [opT] at h
  refine h.mono ?_
  rintro e w' ⟨A', c', rfl, hr, hb⟩
  obtain ⟨B, o, rfl, hl, hc⟩ := hr (by simp)
  exact ⟨⟨B, o, c', rfl, hl, hc 0 (by simp)⟩, hb⟩
theorem cutTT (A : Option Addr) (W : World) (H : CallOk W A 3 cT bT dT) : Calls Try.prog 24 #[.slice A 3 3, .int .i64 2] W fun e w' => WCut w' e ∧ Below W.heap.size W w' := by
  have h := cut_any A 3 3 cT bT dT 2 (by omega) W H
  rw [cutT] at h
  refine h.mono ?_
  rintro e w' ⟨⟨v, rfl, hr⟩, hb⟩
  obtain ⟨g, cap, rfl, hb2, hlt⟩ := hr.form (by simp)
  exact ⟨⟨g, cap, rfl, hlt, (hr.cellAt 14 (by simp)).trans rfl, (hr.cellAt 29 (by simp)).trans rfl⟩, hb⟩

set_option maxRecDepth 100000 in
set_option maxHeartbeats 8000000 in
theorem works10_any (w : World) : Calls Try.prog 7 #[] w fun e w' => e = .returned (.bool true) ∧ Below w.heap.size w w' := by
  go_enter Try.func7, Try.ntmps7
  go_wp2_with fail
  refine (told10_any _).mono ?_
  rintro e w1 ⟨rfl, h1, hb1⟩
  obtain ⟨A, hA⟩ : ∃ A, A = w.heap.size := ⟨_, rfl⟩
  rw [← hA] at h1
  rw [← hA]
  have H1 := hide h1
  have B1 := hide hb1
  clear h1 hb1 hA
  go_wp2_with fail
  refine (atTT (some ⟨A, 0, none⟩) _ (unhide H1)).mono ?_
  rintro e w2 ⟨⟨ga, oa, ca, rfl, hla, hca⟩, hb2⟩
  have B2 := hide ((unhide B1).trans (hb2.mono (unhide B1).size))
  have H2 := hide ((unhide H1).keep hb2)
  have HA := hide (And.intro hla hca)
  clear hb2 B1 H1 hca hla
  go_wp2_with fail
  refine (opTT (some ⟨A, 0, none⟩) _ (unhide H2)).mono ?_
  rintro e w3 ⟨⟨gb, ob, cb, rfl, hlb, hcb⟩, hb2⟩
  have B3 := hide ((unhide B2).trans (hb2.mono (unhide B2).size))
  have H3 := hide ((unhide H2).keep hb2)
  have HA3 : Hid (ga < w3.heap.size ∧ w3.cell? ⟨ga, oa + 1, none⟩ = some (.int .i64 1)) := hide ⟨by have := (unhide HA).1; have := hb2.size; omega, (hb2.cell (p := ⟨ga, oa + 1, none⟩) (unhide HA).1).trans (unhide HA).2⟩
  have HB3 := hide (And.intro hlb hcb)
  clear hb2 B2 H2 HA hcb hlb
  go_wp2_with fail
  refine (cutTT (some ⟨A, 0, none⟩) _ (unhide H3)).mono ?_
  rintro e w4 ⟨⟨gc, cc, rfl, hlc, hcc⟩, hb2⟩
  have B4 := hide ((unhide B3).trans (hb2.mono (unhide B3).size))
  have H4 := hide ((unhide H3).keep hb2)
  have HA4 : Hid (ga < w4.heap.size ∧ w4.cell? ⟨ga, oa + 1, none⟩ = some (.int .i64 1)) := hide ⟨by have := (unhide HA3).1; have := hb2.size; omega, (hb2.cell (p := ⟨ga, oa + 1, none⟩) (unhide HA3).1).trans (unhide HA3).2⟩
  have HB4 : Hid (gb < w4.heap.size ∧ w4.cell? ⟨gb, ob, none⟩ = some (.int .i64 2)) := hide ⟨by have := (unhide HB3).1; have := hb2.size; omega, (hb2.cell (p := ⟨gb, ob, none⟩) (unhide HB3).1).trans (unhide HB3).2⟩
  have HC4 := hide (And.intro hlc hcc)
  clear hb2 B3 H3 HA3 HB3 hcc hlc
  have HF := hide (fun U (hU : Below w4.heap.size w4 U) => And.intro (CallOk.keep (unhide H4) hU) (show _ from (⟨(hU.cell (p := ⟨ga, oa + 1, none⟩) (unhide HA4).1).trans (unhide HA4).2, (hU.cell (p := ⟨gb, ob, none⟩) (unhide HB4).1).trans (unhide HB4).2, (hU.cell (p := ⟨gc, 14, none⟩) (unhide HC4).1).trans (unhide HC4).2.1, (hU.cell (p := ⟨gc, 29, none⟩) (unhide HC4).1).trans (unhide HC4).2.2⟩ : U.cell? ⟨ga, oa + 1, none⟩ = some (.int .i64 1) ∧ U.cell? ⟨gb, ob, none⟩ = some (.int .i64 2) ∧ U.cell? ⟨gc, 14, none⟩ = some (.bool false) ∧ U.cell? ⟨gc, 29, none⟩ = some (.bool true))))
  clear HA4 HB4 HC4
  go_wp2_with fail
  refine (checkT (some ⟨A, 0, none⟩) _ (unhide H4)).mono ?_
  rintro e w5 ⟨rfl, hb5⟩
  have hs5 := hb5.size
  go_wp2_with fail
  refine (checkX (some ⟨w5.heap.size, 0, none⟩) _ (xRow w5 _ rfl _ rfl _)).mono ?_
  rintro e w6 ⟨rfl, hb6⟩
  have B6 : Below w4.heap.size w4 w6 := by repeat (first | exact Below.refl _ _ | assumption | refine Below.alloc ?_ (by first | (simp; done) | (simp; omega) | omega) _ | refine Below.setCell ?_ (by first | (simp; done) | (simp; omega) | omega) _ | apply Below.drew | refine Below.trans ?_ (Below.mono (by assumption) (by first | (simp; done) | (simp; omega) | omega)))
  have BW := hide ((unhide B4).trans (B6.mono (unhide B4).size))
  have hH6 := (unhide HF w6 B6).1
  have HM := hide (fun U (hU : Below w6.heap.size w6 U) => mostTT (some ⟨A, 0, none⟩) U (hH6.keep hU))
  have HG := hide (fun U (hU : Below w6.heap.size w6 U) => And.intro ((tcells hH6).2.keep (tcells hH6).1 hU) (unhide HF U (B6.trans (hU.mono B6.size))).2)
  clear hH6 HF B6 hb6 hs5 hb5 B4 H4
  unfold TCells at HG
  go_upto_region 6 with fail
  refine wp_region_class (fun U => Below w6.heap.size w6 U) (by kernel_rfl) (by kernel_rfl) (by repeat (first | exact Below.refl _ _ | assumption | refine Below.alloc ?_ (by first | (simp; done) | (simp; omega) | omega) _ | refine Below.setCell ?_ (by first | (simp; done) | (simp; omega) | omega) _ | apply Below.drew | refine Below.trans ?_ (Below.mono (by assumption) (by first | (simp; done) | (simp; omega) | omega)))) ?_
  repeat (first | go_big_quiet_skip | (go_big_quiet_want; (first | (go_big_quiet_op; go_big_quiet_on) | (refine quiet_op ?_; apply Exists.intro; refine ⟨fun U hU => ?_, ?_⟩; (focus ((obtain ⟨⟨f0, f1, f2, f3, f4, f5, f6, f7, f8, f9, f10, f11, f12, f13, f14, f15, f16, f17, f18, f19, f20, f21, f22, f23, f24, f25, f26, f27, f28, f29⟩, fa, fb, fc, fd⟩ := unhide HG U hU; go_simp; (first | done | with_reducible rfl | (first | (go_at_call 8; exact class_same hU (num10_any _ _)) | (go_at_call 12; exact class_call hU (unhide HM U hU)) | (go_at_call 11; exact class_call hU (aheadT _))))))); go_big_quiet_on; (try simp only [Act.put, List.setIfInBounds_toArray, List.set_cons_zero, List.set_cons_succ])))))
  refine wpQuiet_nil ?_
  intro w7 hw7
  go_wp2
  go_ret
  exact ⟨rfl, (unhide BW).trans (hw7.mono (unhide BW).size)⟩
end Go.Proofs.Ytahfoogcdgjimaa
