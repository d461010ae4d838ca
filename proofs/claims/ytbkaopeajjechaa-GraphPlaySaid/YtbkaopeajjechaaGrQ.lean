/- The walks of package graph: what kinds do, what a refusal turns into. -/
import Derived.Test.YtbkaopeajjechaaGrP
import Derived.Recover
import Derived.Maps.Views
namespace Go.Proofs.Ytbkaopeajjechaa
set_option linter.unusedVariables false
set_option linter.unusedSimpArgs false
open Go.RowKit Go.Maps

theorem kd_p : Try.prog.underlying 26 = some (.int .i64) := by kernel_rfl
theorem kd_m : Try.prog.underlying 79 = some (.map 26 78) := by kernel_rfl
theorem kd_z (w : World) : (zeroValue 78).run Try.prog w = .ok .nilFunc w := by kernel_rfl

/-- The function of a kind. -/
def kfn : Nat → Nat
  | 1 => 55
  | 2 => 56
  | 3 => 57
  | 4 => 58
  | 5 => 59
  | 6 => 60
  | 7 => 61
  | 8 => 62
  | 9 => 63
  | 10 => 64
  | _ => 65

/-- The kinds, looked up. -/
def KdsV (W : World) (b : Nat) : Prop := ∀ k : Nat, 1 ≤ k → k ≤ 11 → (Instr.lookup 79 (.map (some b)) (.int .i64 (k : Int)) false).run Try.prog W = .ok (fv (kfn k)) W

def kdD : Nat → DataW Value
  | 0 => DataW.map []
  | n + 1 => (kdD n).put (.int .i64 ((n + 1 : Nat) : Int)) (.held (fv (kfn (n + 1))))
theorem kdD_is : ∀ n, IsMap (kdD n)
  | 0 => ⟨_, rfl⟩
  | n + 1 => IsMap.put (kdD_is n) _ _
theorem kdD_at : ∀ (n k : Nat), 1 ≤ k → k ≤ n → (kdD n).atKey (.int .i64 (k : Int)) (.held .nilFunc) = .held (fv (kfn k))
  | 0, k, h1, h2 => by omega
  | n + 1, k, h1, h2 => by
    unfold kdD
    by_cases e : k = n + 1
    · subst e
      rw [atKey_put_same (kdD_is n) (show WideAt.IsKeyLit (.int .i64 ((n + 1 : Nat) : Int)) from trivial)]
    · rw [atKey_put_other (fun h => e (by injection h with h; omega))]
      exact kdD_at n k h1 (by omega)

set_option maxRecDepth 100000 in
set_option maxHeartbeats 4000000 in
theorem kinds_any (w : World) : Calls Try.prog 35 #[] w fun e w' => e = .returned (.map (some w.heap.size)) ∧ KdsV w' w.heap.size ∧ Below w.heap.size w w' := by
  have hmm := @run_makeMap Try.prog
  have h0 := (World.ownsMap_made (H := Value) w Try.prog 26 heldE : _)
  have B0 : Below w.heap.size w (w.alloc (.map #[] 0)) := (Below.refl _ _).alloc (Nat.le_refl _) _
  obtain ⟨U1, p1, o1, g1⟩ := h0.update (int_keyed kd_p) kd_m (by decide) (keyOf_int_mk kd_p (a := 1) (by decide)) (show heldE (fv 55) = _ from rfl)
  have s1 := g1.size
  simp only [World.size_alloc] at s1
  have B1 := B0.grown g1 (by simp) (fun r hr => by cases hr; omega)
  obtain ⟨U2, p2, o2, g2⟩ := o1.update (int_keyed kd_p) kd_m (by decide) (keyOf_int_mk kd_p (a := 2) (by decide)) (show heldE (fv 56) = _ from rfl)
  have s2 := g2.size
  have B2 := B1.grown g2 (by omega) (fun r hr => by cases hr; omega)
  obtain ⟨U3, p3, o3, g3⟩ := o2.update (int_keyed kd_p) kd_m (by decide) (keyOf_int_mk kd_p (a := 3) (by decide)) (show heldE (fv 57) = _ from rfl)
  have s3 := g3.size
  have B3 := B2.grown g3 (by omega) (fun r hr => by cases hr; omega)
  obtain ⟨U4, p4, o4, g4⟩ := o3.update (int_keyed kd_p) kd_m (by decide) (keyOf_int_mk kd_p (a := 4) (by decide)) (show heldE (fv 58) = _ from rfl)
  have s4 := g4.size
  have B4 := B3.grown g4 (by omega) (fun r hr => by cases hr; omega)
  obtain ⟨U5, p5, o5, g5⟩ := o4.update (int_keyed kd_p) kd_m (by decide) (keyOf_int_mk kd_p (a := 5) (by decide)) (show heldE (fv 59) = _ from rfl)
  have s5 := g5.size
  have B5 := B4.grown g5 (by omega) (fun r hr => by cases hr; omega)
  obtain ⟨U6, p6, o6, g6⟩ := o5.update (int_keyed kd_p) kd_m (by decide) (keyOf_int_mk kd_p (a := 6) (by decide)) (show heldE (fv 60) = _ from rfl)
  have s6 := g6.size
  have B6 := B5.grown g6 (by omega) (fun r hr => by cases hr; omega)
  obtain ⟨U7, p7, o7, g7⟩ := o6.update (int_keyed kd_p) kd_m (by decide) (keyOf_int_mk kd_p (a := 7) (by decide)) (show heldE (fv 61) = _ from rfl)
  have s7 := g7.size
  have B7 := B6.grown g7 (by omega) (fun r hr => by cases hr; omega)
  obtain ⟨U8, p8, o8, g8⟩ := o7.update (int_keyed kd_p) kd_m (by decide) (keyOf_int_mk kd_p (a := 8) (by decide)) (show heldE (fv 62) = _ from rfl)
  have s8 := g8.size
  have B8 := B7.grown g8 (by omega) (fun r hr => by cases hr; omega)
  obtain ⟨U9, p9, o9, g9⟩ := o8.update (int_keyed kd_p) kd_m (by decide) (keyOf_int_mk kd_p (a := 9) (by decide)) (show heldE (fv 63) = _ from rfl)
  have s9 := g9.size
  have B9 := B8.grown g9 (by omega) (fun r hr => by cases hr; omega)
  obtain ⟨U10, p10, o10, g10⟩ := o9.update (int_keyed kd_p) kd_m (by decide) (keyOf_int_mk kd_p (a := 10) (by decide)) (show heldE (fv 64) = _ from rfl)
  have s10 := g10.size
  have B10 := B9.grown g10 (by omega) (fun r hr => by cases hr; omega)
  obtain ⟨U11, p11, o11, g11⟩ := o10.update (int_keyed kd_p) kd_m (by decide) (keyOf_int_mk kd_p (a := 11) (by decide)) (show heldE (fv 65) = _ from rfl)
  have s11 := g11.size
  have B11 := B10.grown g11 (by omega) (fun r hr => by cases hr; omega)
  have HV : Hid (KdsV U11 w.heap.size) := hide (fun k h1 h2 => by
    obtain ⟨v, ps, hrun, hv⟩ := o11.lookup (int_keyed kd_p) kd_m (kd_z U11) (show heldE .nilFunc = some (.held .nilFunc, []) from rfl) (keyOf_int_mk kd_p (a := (k : Int)) (WalkArith.wf_i64 (by omega)))
    have hv2 : heldE v = some ((kdD 11).atKey (.int .i64 (k : Int)) (.held .nilFunc), ps) := hv
    rw [kdD_at 11 k h1 h2] at hv2
    simp only [heldE, Option.some.injEq, Prod.mk.injEq, DataW.held.injEq] at hv2
    rw [← hv2.1]
    exact hrun)
  clear h0 o1 o2 o3 o4 o5 o6 o7 o8 o9 o10 o11 g1 g2 g3 g4 g5 g6 g7 g8 g9 g10 g11 B0 B1 B2 B3 B4 B5 B6 B7 B8 B9 B10
  have HB := hide B11
  clear B11
  go_enter Try.func35, Try.ntmps35
  go_wp2
  go_ret
  exact ⟨rfl, unhide HV, unhide HB⟩

set_option maxRecDepth 100000 in
set_option maxHeartbeats 2000000 in
theorem catch_pan (b : Nat) (x : Int) (older : List PanicEntry) (w : World) (v0 v1 v2 : Value) (c0 : w.cell? ⟨b, 0, none⟩ = some v0) (c1 : w.cell? ⟨b, 1, none⟩ = some v1) (c2 : w.cell? ⟨b, 2, none⟩ = some v2)
    (f0 : w.frozen? ⟨b, 0, none⟩ = false) (f1 : w.frozen? ⟨b, 1, none⟩ = false) (f2 : w.frozen? ⟨b, 2, none⟩ = false) :
    CallsD Try.prog 32 #[.pointer (some ⟨b, 0, none⟩)] (.panicking ({ v := .iface 32 (.int .i64 x), recovered := false } :: older)) w fun e u' w' =>
      e = .returned (.tuple #[]) ∧ u' = .panicking ({ v := .iface 32 (.int .i64 x), recovered := true } :: older) ∧ w' = ((w.setCell ⟨b, 0, none⟩ (.int .i64 x)).setCell ⟨b, 1, none⟩ (.bool false)).setCell ⟨b, 2, none⟩ (.int .i64 0) := by
  refine callsD_of_wpS Try.func32 rfl fun c₀ cs hu => ?_
  apply wpS_seq
  apply wpS_region
  simp [wpOpsS, go_sem, recoverD, hu, Try.ntmps32, Exit.thenS]
  simp only [Array.replicate_succ, Array.replicate_zero, List.push_toArray, List.append_toArray, List.nil_append, List.cons_append, List.setIfInBounds_toArray, List.set_cons_zero, List.set_cons_succ]
  refine wpS_of_wp ?_
  have hta : ∀ W, (Instr.typeAssert (.iface 32 (.int .i64 x)) 20 32 true).run Try.prog W = .ok (.tuple #[.int .i64 x, .bool true]) W := fun W => by kernel_rfl
  go_wp2
  cases c₀
  simp_all [bodyPostS, results, Try.results32]

theorem catch_no (b : Nat) (w : World) :
    CallsD Try.prog 32 #[.pointer (some ⟨b, 0, none⟩)] .returning w fun e u' w' => e = .returned (.tuple #[]) ∧ u' = .returning ∧ w' = w := by
  refine callsD_of_wpS Try.func32 rfl fun c₀ cs hu => ?_
  apply wpS_seq
  apply wpS_region
  simp [wpOpsS, go_sem, recoverD, hu, Try.ntmps32, Exit.thenS]
  simp only [Array.replicate_succ, Array.replicate_zero, List.push_toArray, List.append_toArray, List.nil_append, List.cons_append, List.setIfInBounds_toArray, List.set_cons_zero, List.set_cons_succ]
  refine wpS_of_wp ?_
  go_wp2
  cases c₀
  simp_all [bodyPostS, results, Try.results32]
end Go.Proofs.Ytbkaopeajjechaa
