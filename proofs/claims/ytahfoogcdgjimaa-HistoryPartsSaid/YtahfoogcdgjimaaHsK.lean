/- Package history: the two maps of Check (no walk). -/
import Derived.Test.YtahfoogcdgjimaaHsJ
import Derived.Maps.Own
import Derived.Maps.OwnSet
import Derived.Maps.OwnOps
import Derived.Maps.Views
import Derived.Maps.Keyed
namespace Go.Proofs.Ytahfoogcdgjimaa
set_option linter.unusedVariables false
set_option linter.unusedSimpArgs false
open Go.RowKit Go.Maps

theorem zero_int10 (w : World) : (zeroValue 3).run Try.prog w = .ok (.int .i64 0) w := by kernel_rfl
theorem zero_call10 (w : World) : (zeroValue 36).run Try.prog w = .ok zCall w := by kernel_rfl

/-- An element that is not read. -/
def heldR (v : Value) : Option (DataW Value × List MemPlace) := some (.held v, [])

/-- A map of numbers to numbers. -/
def SeenM (W : World) (b n : Nat) (f : Int → Int) : Prop :=
  ∃ D : DataW Value, W.ownsMap Try.prog 3 (plainElem Try.prog 3) b n D ∧ IsMap D ∧ ∀ s, D.atKey (.int .i64 s) (.lit (.int .i64 0)) = .lit (.int .i64 (f s))

/-- A map of numbers to calls. -/
def LastM (W : World) (b n : Nat) (g : Int → Option Value) : Prop :=
  ∃ D : DataW Value, W.ownsMap Try.prog 3 heldR b n D ∧ IsMap D ∧ ∀ t, has D (.int .i64 t) = (g t).isSome ∧ D.atKey (.int .i64 t) (.held zCall) = .held ((g t).getD zCall)

theorem SeenM.lt {W : World} {b n : Nat} {f : Int → Int} (H : SeenM W b n f) : b < W.heap.size := by obtain ⟨D, h, _⟩ := H; exact h.lt
theorem LastM.lt {W : World} {b n : Nat} {g : Int → Option Value} (H : LastM W b n g) : b < W.heap.size := by obtain ⟨D, h, _⟩ := H; exact h.lt

theorem SeenM.kept {W U : World} {b n : Nat} {f : Int → Int} {row : Option Nat} (H : SeenM W b n f) (hg : W.grownBy U row) (hne : some b ≠ row) : SeenM U b n f := by
  obtain ⟨D, h, r⟩ := H; exact ⟨D, h.kept hg hne, r⟩
theorem LastM.kept {W U : World} {b n : Nat} {g : Int → Option Value} {row : Option Nat} (H : LastM W b n g) (hg : W.grownBy U row) (hne : some b ≠ row) : LastM U b n g := by
  obtain ⟨D, h, r⟩ := H; exact ⟨D, h.kept hg hne, r⟩

theorem SeenM.below {W U : World} {b n : Nat} {f : Int → Int} (H : SeenM W b n f) (hb : Below W.heap.size W U) : SeenM U b n f := H.kept (grown_below hb none) (by simp)
theorem LastM.below {W U : World} {b n : Nat} {g : Int → Option Value} (H : LastM W b n g) (hb : Below W.heap.size W U) : LastM U b n g := H.kept (grown_below hb none) (by simp)

theorem SeenM.made (w : World) : SeenM (w.alloc (.map #[] 0)) w.heap.size 0 (fun _ => 0) := ⟨_, World.ownsMap_made _ _ _ _, ⟨_, rfl⟩, fun _ => rfl⟩
theorem LastM.made (w : World) : LastM (w.alloc (.map #[] 0)) w.heap.size 0 (fun _ => none) := ⟨_, World.ownsMap_made _ _ _ _, ⟨_, rfl⟩, fun _ => ⟨rfl, rfl⟩⟩

theorem key10 : Try.prog.underlying 3 = some (.int .i64) := by kernel_rfl
theorem map49 : Try.prog.underlying 49 = some (.map 3 3) := by kernel_rfl
theorem map50 : Try.prog.underlying 50 = some (.map 3 36) := by kernel_rfl

theorem SeenM.look {W : World} {b n : Nat} {f : Int → Int} (H : SeenM W b n f) {s : Int} (hs : (Lit.int .i64 s).wf = true) :
    (Instr.lookup 49 (.map (some b)) (.int .i64 s) false).run Try.prog W = .ok (.int .i64 (f s)) W ∧ (Lit.int .i64 (f s)).wf = true := by
  obtain ⟨D, h, _, r⟩ := H
  obtain ⟨c, hrun, hat, hw⟩ := h.lookup_int (int_keyed key10) map49 key10 (zero_int10 W) (keyOf_int_mk key10 hs)
  rw [r s] at hat
  injection hat with hat
  injection hat with _ hat
  rw [hat]
  exact ⟨hrun, hw⟩

theorem SeenM.put {W : World} {b n : Nat} {f : Int → Int} (H : SeenM W b n f) (hn : n < maxLen) {s v : Int} (hs : (Lit.int .i64 s).wf = true) (hv : (Lit.int .i64 v).wf = true) :
    ∃ U, (Instr.mapUpdate 49 (.map (some b)) (.int .i64 s) (.int .i64 v)).run Try.prog W = .ok () U ∧ SeenM U b (n + 1) (fun x => if x = s then v else f x) ∧ W.grownBy U (some b) := by
  obtain ⟨D, h, hD, r⟩ := H
  obtain ⟨U, hrun, h2, hg⟩ := h.update (int_keyed key10) map49 hn (keyOf_int_mk key10 hs) (plainElem_int key10 hv)
  refine ⟨U, hrun, ⟨_, h2, hD.put _ _, fun x => ?_⟩, hg⟩
  dsimp only
  by_cases e : x = s
  · subst e
    rw [if_pos rfl, atKey_put_same hD (show WideAt.IsKeyLit (.int .i64 x) from trivial)]
  · rw [if_neg e, atKey_put_other (fun h => e (by injection h))]
    exact r x

theorem LastM.look {W : World} {b n : Nat} {g : Int → Option Value} (H : LastM W b n g) {s : Int} (hs : (Lit.int .i64 s).wf = true) :
    (Instr.lookup 50 (.map (some b)) (.int .i64 s) true).run Try.prog W = .ok (.tuple #[(g s).getD zCall, .bool (g s).isSome]) W := by
  obtain ⟨D, h, _, r⟩ := H
  obtain ⟨v, ps, hrun, hv⟩ := h.look_ok (int_keyed key10) map50 (zero_call10 W) (zd := .held zCall) (zp := []) rfl (keyOf_int_mk key10 hs)
  rw [(r s).2] at hv
  rw [(r s).1] at hrun
  unfold heldR at hv
  injection hv with hv
  injection hv with hv _
  injection hv with hv
  rw [hv] at hrun
  exact hrun

theorem LastM.put {W : World} {b n : Nat} {g : Int → Option Value} (H : LastM W b n g) (hn : n < maxLen) {s : Int} (hs : (Lit.int .i64 s).wf = true) (v : Value) :
    ∃ U, (Instr.mapUpdate 50 (.map (some b)) (.int .i64 s) v).run Try.prog W = .ok () U ∧ LastM U b (n + 1) (fun x => if x = s then some v else g x) ∧ W.grownBy U (some b) := by
  obtain ⟨D, h, hD, r⟩ := H
  obtain ⟨U, hrun, h2, hg⟩ := h.update (int_keyed key10) map50 hn (keyOf_int_mk key10 hs) (d := .held v) (ps := []) rfl
  refine ⟨U, hrun, ⟨_, h2, hD.put _ _, fun x => ?_⟩, hg⟩
  dsimp only
  by_cases e : x = s
  · subst e
    rw [if_pos rfl, has_put_same hD (show WideAt.IsKeyLit (.int .i64 x) from trivial), atKey_put_same hD (show WideAt.IsKeyLit (.int .i64 x) from trivial)]
    exact ⟨rfl, rfl⟩
  · rw [if_neg e, has_put_other (fun h => e (by injection h)), atKey_put_other (fun h => e (by injection h))]
    exact r x
end Go.Proofs.Ytahfoogcdgjimaa
