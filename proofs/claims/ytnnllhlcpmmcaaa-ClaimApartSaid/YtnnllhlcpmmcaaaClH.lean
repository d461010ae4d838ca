/- Package claim: what a machine tells next: a map of its three ways. -/
import Derived.Test.YtnnllhlcpmmcaaaClS
import Derived.Test.YtnnllhlcpmmcaaaFe
import Derived.Maps.Views
namespace Go.Proofs.Ytnnllhlcpmmcaaa
set_option linter.unusedVariables false
set_option linter.unusedSimpArgs false
open Go.RowKit Go.Maps

theorem nk_p : Try.prog.underlying 76 = some (.int .i64) := by kernel_rfl
theorem nk_m : Try.prog.underlying 92 = some (.map 76 46) := by kernel_rfl
theorem nk_z (w : World) : (zeroValue 46).run Try.prog w = .ok .nilFunc w := by kernel_rfl

/-- An element of whatever kind reads as itself. -/
def heldE (v : Value) : Option (DataW Value × List MemPlace) := some (.held v, [])

def fnv (F m : Nat) : Value := .func (.func F) #[.pointer (some ⟨m, 0, none⟩)] #[]
def nxV (m : Nat) (pl : Int) : Value := if pl = 1 then fnv 37 m else if pl = 2 then fnv 38 m else if pl = 3 then fnv 39 m else .nilFunc
def nxD (m : Nat) : DataW Value := (((DataW.map []).put (.int .i64 1) (.held (fnv 37 m))).put (.int .i64 2) (.held (fnv 38 m))).put (.int .i64 3) (.held (fnv 39 m))

theorem nx_at (m : Nat) (pl : Int) : (nxD m).atKey (.int .i64 pl) (.held .nilFunc) = .held (nxV m pl) := by
  have i0 : IsMap (DataW.map (H := Value) []) := ⟨_, rfl⟩
  have i1 := IsMap.put i0 (.int .i64 1) (.held (fnv 37 m))
  have i2 := IsMap.put i1 (.int .i64 2) (.held (fnv 38 m))
  unfold nxD nxV
  by_cases h3 : pl = 3
  · subst h3
    rw [atKey_put_same i2 (show WideAt.IsKeyLit (.int .i64 3) from trivial)]
    rfl
  rw [atKey_put_other (fun h => h3 (by injection h))]
  by_cases h2 : pl = 2
  · subst h2
    rw [atKey_put_same i1 (show WideAt.IsKeyLit (.int .i64 2) from trivial)]
    rfl
  rw [atKey_put_other (fun h => h2 (by injection h))]
  by_cases h1 : pl = 1
  · subst h1
    rw [atKey_put_same i0 (show WideAt.IsKeyLit (.int .i64 1) from trivial)]
    rfl
  rw [atKey_put_other (fun h => h1 (by injection h)), if_neg h1, if_neg h2, if_neg h3]
  rfl

/-- The map laid, and looked up. -/
theorem nx_laid (m : Nat) (w : World) : ∃ U1 U2 U3 : World,
    (Instr.mapUpdate 92 (.map (some w.heap.size)) (.int .i64 1) (fnv 37 m)).run Try.prog (w.alloc (.map #[] 0)) = .ok () U1 ∧
    (Instr.mapUpdate 92 (.map (some w.heap.size)) (.int .i64 2) (fnv 38 m)).run Try.prog U1 = .ok () U2 ∧
    (Instr.mapUpdate 92 (.map (some w.heap.size)) (.int .i64 3) (fnv 39 m)).run Try.prog U2 = .ok () U3 ∧
    (∀ U, Below U3.heap.size U3 U → ∀ pl : Int, (Lit.int .i64 pl).wf = true → (Instr.lookup 92 (.map (some w.heap.size)) (.int .i64 pl) false).run Try.prog U = .ok (nxV m pl) U) ∧
    Below w.heap.size w U3 := by
  have h0 := (World.ownsMap_made (H := Value) w Try.prog 76 heldE : _)
  obtain ⟨U1, p1, o1, g1⟩ := h0.update (int_keyed nk_p) nk_m (by decide) (keyOf_int_mk nk_p (a := 1) (by decide)) (show heldE (fnv 37 m) = _ from rfl)
  obtain ⟨U2, p2, o2, g2⟩ := o1.update (int_keyed nk_p) nk_m (by decide) (keyOf_int_mk nk_p (a := 2) (by decide)) (show heldE (fnv 38 m) = _ from rfl)
  obtain ⟨U3, p3, o3, g3⟩ := o2.update (int_keyed nk_p) nk_m (by decide) (keyOf_int_mk nk_p (a := 3) (by decide)) (show heldE (fnv 39 m) = _ from rfl)
  have hs1 := g1.size
  have hs2 := g2.size
  simp only [World.size_alloc] at hs1
  refine ⟨U1, U2, U3, p1, p2, p3, fun U hU pl hpl => ?_, ((((Below.refl _ w).alloc (Nat.le_refl _) _).grown g1 (by simp) (fun r hr => by cases hr; omega)).grown g2 (by omega) (fun r hr => by cases hr; omega)).grown g3 (by omega) (fun r hr => by cases hr; omega)⟩
  have oU := o3.kept (row := none) ⟨hU.os, hU.tape, hU.output, hU.size, fun i hi _ => hU.block i hi⟩ (by simp)
  obtain ⟨v, ps, hrun, hv⟩ := oU.lookup (int_keyed nk_p) nk_m (nk_z U) (show heldE .nilFunc = some (.held .nilFunc, []) from rfl) (keyOf_int_mk nk_p hpl)
  have e := nx_at m pl
  unfold nxD at e
  rw [e] at hv
  simp only [heldE, Option.some.injEq, Prod.mk.injEq, DataW.held.injEq] at hv
  rw [← hv.1]
  exact hrun

@[local go_sem] theorem eql_nn (w : World) : (binOp .eql 46 .nilFunc .nilFunc).run Try.prog w = .ok (.bool true) w := run_eql_nil_nil w (by kernel_rfl)
@[local go_sem] theorem eql_nx (w : World) (f : Fn) (c a : Array Value) : (binOp .eql 46 (.func f c a) .nilFunc).run Try.prog w = .ok (.bool false) w := run_eql_func_nil w f c a (by kernel_rfl)

set_option maxHeartbeats 4000000 in
theorem next_begins (m : Nat) (c c' : Nat → Value) (x k a o v : Int) (b : Bool) (w : World) (H : IsM w m c) (h6 : c 6 = .int .i64 1)
    (C : ∀ W, Below w.heap.size w W → IsM W m c → Calls Try.prog 37 #[.pointer (some ⟨m, 0, none⟩), .int .u64 x] W fun en w' => en = .returned (.tuple #[.agg #[.int .i64 k, .int .i64 a, .int .u64 o, .int .u64 v], .bool b]) ∧ McTo W w' m c') :
    Calls Try.prog 15 #[.pointer (some ⟨m, 0, none⟩), .int .u64 x] w
      fun en w' => en = .returned (.tuple #[.agg #[.int .i64 k, .int .i64 a, .int .u64 o, .int .u64 v], .bool b]) ∧ McTo w w' m c' := by
  have CC := hide C
  have hm := H.1
  have hmne : w.heap.size ≠ m := by omega
  have hmne2 : m ≠ w.heap.size := by omega
  obtain ⟨W1, hW1⟩ : ∃ W1, w.alloc (.cells #[.int .i64 0, .int .i64 0, .int .u64 0, .int .u64 0] 44) = W1 := ⟨_, rfl⟩
  have hB1 : Below w.heap.size w W1 := by rw [← hW1]; exact (Below.refl _ _).alloc (Nat.le_refl _) _
  have hz1 : W1.heap.size = w.heap.size + 1 := by rw [← hW1]; simp
  obtain ⟨U1, U2, U3, p1, p2, p3, hl, hB3⟩ := nx_laid m W1
  have hz3 := hB3.size
  have hB : Below w.heap.size w U3 := hB1.trans (hB3.mono (by omega))
  have hlk := hl U3 (Below.refl _ _) 1 (by decide)
  rw [show nxV m 1 = fnv 37 m from rfl] at hlk
  unfold fnv at p1 p2 p3 hlk
  have HM := hide (H.keep hB)
  have f6 : U3.cell? ⟨m, 6, none⟩ = some (.int .i64 1) := by rw [((unhide HM).2 6 (by omega)).1, h6]
  have r0 : ∀ i, U3.cell? ⟨w.heap.size, i, none⟩ = (w.alloc (.cells #[.int .i64 0, .int .i64 0, .int .u64 0, .int .u64 0] 44)).cell? ⟨w.heap.size, i, none⟩ := fun i => by rw [hW1]; exact hB3.cell (p := ⟨w.heap.size, i, none⟩) (show w.heap.size < W1.heap.size by omega)
  have r1 : ∀ i, U3.frozen? ⟨w.heap.size, i, none⟩ = (w.alloc (.cells #[.int .i64 0, .int .i64 0, .int .u64 0, .int .u64 0] 44)).frozen? ⟨w.heap.size, i, none⟩ := fun i => by rw [hW1]; exact hB3.frozen (p := ⟨w.heap.size, i, none⟩) (show w.heap.size < W1.heap.size by omega)
  have HR0 := hide r0
  have HR1 := hide r1
  have hUz : w.heap.size < U3.heap.size := by omega
  have HB := hide hB
  have HW := hide hW1
  rw [hz1] at p1 p2 p3 hlk
  rw [← hW1] at p1
  have hmm := @run_makeMap Try.prog
  clear r0 r1 hB1 hB3 hz3 hl H C hW1 hB hz1
  go_enter Try.func15, Try.ntmps15
  go_wp2_with fail
  refine (unhide CC _ (unhide HB) (unhide HM)).mono ?_
  rintro en w4 ⟨rfl, hw4⟩
  have hg := hw4.1.size
  have hsz : w.heap.size < w4.heap.size := by omega
  have hG := hide (show w.grownBy w4 (some m) from gr_trans (gr_below (unhide HB) _) hw4.1)
  have HI := hide hw4.2
  have s0 : ∀ i, w4.cell? ⟨w.heap.size, i, none⟩ = (w.alloc (.cells #[.int .i64 0, .int .i64 0, .int .u64 0, .int .u64 0] 44)).cell? ⟨w.heap.size, i, none⟩ := fun i => (gr_cell hw4.1 hUz hmne i).trans (unhide HR0 i)
  have s1 : ∀ i, w4.frozen? ⟨w.heap.size, i, none⟩ = (w.alloc (.cells #[.int .i64 0, .int .i64 0, .int .u64 0, .int .u64 0] 44)).frozen? ⟨w.heap.size, i, none⟩ := fun i => (gr_frozen hw4.1 hUz hmne i).trans (unhide HR1 i)
  clear hw4 hg f6 hlk p1 p2 p3
  go_wp2
  refine bodyPost_ret (v := .tuple #[.agg #[.int .i64 k, .int .i64 a, .int .u64 o, .int .u64 v], .bool b]) (by simp only [results, Try.results15]; go_simp) rfl ?_
  refine ⟨rfl, ?_, ?_⟩
  · (repeat (first | (with_reducible exact unhide hG) | (with_reducible refine gr_drew ?_) | (with_reducible refine gr_alloc ?_ _) | (with_reducible refine gr_set ?_ _) | (with_reducible refine gr_new ?_ (by omega) _))); done
  · (repeat (first | (with_reducible exact unhide HI) | (with_reducible refine IsM.drew ?_) | (with_reducible refine IsM.alloc ?_ _) | (with_reducible refine IsM.set ?_ (by omega) _) | (with_reducible refine IsM.far ?_ (by omega) _))); done

set_option maxHeartbeats 4000000 in
theorem next_loads (m : Nat) (c c' : Nat → Value) (x k a o v : Int) (b : Bool) (w : World) (H : IsM w m c) (h6 : c 6 = .int .i64 2)
    (C : ∀ W, Below w.heap.size w W → IsM W m c → Calls Try.prog 38 #[.pointer (some ⟨m, 0, none⟩), .int .u64 x] W fun en w' => en = .returned (.tuple #[.agg #[.int .i64 k, .int .i64 a, .int .u64 o, .int .u64 v], .bool b]) ∧ McTo W w' m c') :
    Calls Try.prog 15 #[.pointer (some ⟨m, 0, none⟩), .int .u64 x] w
      fun en w' => en = .returned (.tuple #[.agg #[.int .i64 k, .int .i64 a, .int .u64 o, .int .u64 v], .bool b]) ∧ McTo w w' m c' := by
  have CC := hide C
  have hm := H.1
  have hmne : w.heap.size ≠ m := by omega
  have hmne2 : m ≠ w.heap.size := by omega
  obtain ⟨W1, hW1⟩ : ∃ W1, w.alloc (.cells #[.int .i64 0, .int .i64 0, .int .u64 0, .int .u64 0] 44) = W1 := ⟨_, rfl⟩
  have hB1 : Below w.heap.size w W1 := by rw [← hW1]; exact (Below.refl _ _).alloc (Nat.le_refl _) _
  have hz1 : W1.heap.size = w.heap.size + 1 := by rw [← hW1]; simp
  obtain ⟨U1, U2, U3, p1, p2, p3, hl, hB3⟩ := nx_laid m W1
  have hz3 := hB3.size
  have hB : Below w.heap.size w U3 := hB1.trans (hB3.mono (by omega))
  have hlk := hl U3 (Below.refl _ _) 2 (by decide)
  rw [show nxV m 2 = fnv 38 m from rfl] at hlk
  unfold fnv at p1 p2 p3 hlk
  have HM := hide (H.keep hB)
  have f6 : U3.cell? ⟨m, 6, none⟩ = some (.int .i64 2) := by rw [((unhide HM).2 6 (by omega)).1, h6]
  have r0 : ∀ i, U3.cell? ⟨w.heap.size, i, none⟩ = (w.alloc (.cells #[.int .i64 0, .int .i64 0, .int .u64 0, .int .u64 0] 44)).cell? ⟨w.heap.size, i, none⟩ := fun i => by rw [hW1]; exact hB3.cell (p := ⟨w.heap.size, i, none⟩) (show w.heap.size < W1.heap.size by omega)
  have r1 : ∀ i, U3.frozen? ⟨w.heap.size, i, none⟩ = (w.alloc (.cells #[.int .i64 0, .int .i64 0, .int .u64 0, .int .u64 0] 44)).frozen? ⟨w.heap.size, i, none⟩ := fun i => by rw [hW1]; exact hB3.frozen (p := ⟨w.heap.size, i, none⟩) (show w.heap.size < W1.heap.size by omega)
  have HR0 := hide r0
  have HR1 := hide r1
  have hUz : w.heap.size < U3.heap.size := by omega
  have HB := hide hB
  have HW := hide hW1
  rw [hz1] at p1 p2 p3 hlk
  rw [← hW1] at p1
  have hmm := @run_makeMap Try.prog
  clear r0 r1 hB1 hB3 hz3 hl H C hW1 hB hz1
  go_enter Try.func15, Try.ntmps15
  go_wp2_with fail
  refine (unhide CC _ (unhide HB) (unhide HM)).mono ?_
  rintro en w4 ⟨rfl, hw4⟩
  have hg := hw4.1.size
  have hsz : w.heap.size < w4.heap.size := by omega
  have hG := hide (show w.grownBy w4 (some m) from gr_trans (gr_below (unhide HB) _) hw4.1)
  have HI := hide hw4.2
  have s0 : ∀ i, w4.cell? ⟨w.heap.size, i, none⟩ = (w.alloc (.cells #[.int .i64 0, .int .i64 0, .int .u64 0, .int .u64 0] 44)).cell? ⟨w.heap.size, i, none⟩ := fun i => (gr_cell hw4.1 hUz hmne i).trans (unhide HR0 i)
  have s1 : ∀ i, w4.frozen? ⟨w.heap.size, i, none⟩ = (w.alloc (.cells #[.int .i64 0, .int .i64 0, .int .u64 0, .int .u64 0] 44)).frozen? ⟨w.heap.size, i, none⟩ := fun i => (gr_frozen hw4.1 hUz hmne i).trans (unhide HR1 i)
  clear hw4 hg f6 hlk p1 p2 p3
  go_wp2
  refine bodyPost_ret (v := .tuple #[.agg #[.int .i64 k, .int .i64 a, .int .u64 o, .int .u64 v], .bool b]) (by simp only [results, Try.results15]; go_simp) rfl ?_
  refine ⟨rfl, ?_, ?_⟩
  · (repeat (first | (with_reducible exact unhide hG) | (with_reducible refine gr_drew ?_) | (with_reducible refine gr_alloc ?_ _) | (with_reducible refine gr_set ?_ _) | (with_reducible refine gr_new ?_ (by omega) _))); done
  · (repeat (first | (with_reducible exact unhide HI) | (with_reducible refine IsM.drew ?_) | (with_reducible refine IsM.alloc ?_ _) | (with_reducible refine IsM.set ?_ (by omega) _) | (with_reducible refine IsM.far ?_ (by omega) _))); done

set_option maxHeartbeats 4000000 in
theorem next_swaps (m : Nat) (c c' : Nat → Value) (x k a o v : Int) (b : Bool) (w : World) (H : IsM w m c) (h6 : c 6 = .int .i64 3)
    (C : ∀ W, Below w.heap.size w W → IsM W m c → Calls Try.prog 39 #[.pointer (some ⟨m, 0, none⟩), .int .u64 x] W fun en w' => en = .returned (.tuple #[.agg #[.int .i64 k, .int .i64 a, .int .u64 o, .int .u64 v], .bool b]) ∧ McTo W w' m c') :
    Calls Try.prog 15 #[.pointer (some ⟨m, 0, none⟩), .int .u64 x] w
      fun en w' => en = .returned (.tuple #[.agg #[.int .i64 k, .int .i64 a, .int .u64 o, .int .u64 v], .bool b]) ∧ McTo w w' m c' := by
  have CC := hide C
  have hm := H.1
  have hmne : w.heap.size ≠ m := by omega
  have hmne2 : m ≠ w.heap.size := by omega
  obtain ⟨W1, hW1⟩ : ∃ W1, w.alloc (.cells #[.int .i64 0, .int .i64 0, .int .u64 0, .int .u64 0] 44) = W1 := ⟨_, rfl⟩
  have hB1 : Below w.heap.size w W1 := by rw [← hW1]; exact (Below.refl _ _).alloc (Nat.le_refl _) _
  have hz1 : W1.heap.size = w.heap.size + 1 := by rw [← hW1]; simp
  obtain ⟨U1, U2, U3, p1, p2, p3, hl, hB3⟩ := nx_laid m W1
  have hz3 := hB3.size
  have hB : Below w.heap.size w U3 := hB1.trans (hB3.mono (by omega))
  have hlk := hl U3 (Below.refl _ _) 3 (by decide)
  rw [show nxV m 3 = fnv 39 m from rfl] at hlk
  unfold fnv at p1 p2 p3 hlk
  have HM := hide (H.keep hB)
  have f6 : U3.cell? ⟨m, 6, none⟩ = some (.int .i64 3) := by rw [((unhide HM).2 6 (by omega)).1, h6]
  have r0 : ∀ i, U3.cell? ⟨w.heap.size, i, none⟩ = (w.alloc (.cells #[.int .i64 0, .int .i64 0, .int .u64 0, .int .u64 0] 44)).cell? ⟨w.heap.size, i, none⟩ := fun i => by rw [hW1]; exact hB3.cell (p := ⟨w.heap.size, i, none⟩) (show w.heap.size < W1.heap.size by omega)
  have r1 : ∀ i, U3.frozen? ⟨w.heap.size, i, none⟩ = (w.alloc (.cells #[.int .i64 0, .int .i64 0, .int .u64 0, .int .u64 0] 44)).frozen? ⟨w.heap.size, i, none⟩ := fun i => by rw [hW1]; exact hB3.frozen (p := ⟨w.heap.size, i, none⟩) (show w.heap.size < W1.heap.size by omega)
  have HR0 := hide r0
  have HR1 := hide r1
  have hUz : w.heap.size < U3.heap.size := by omega
  have HB := hide hB
  have HW := hide hW1
  rw [hz1] at p1 p2 p3 hlk
  rw [← hW1] at p1
  have hmm := @run_makeMap Try.prog
  clear r0 r1 hB1 hB3 hz3 hl H C hW1 hB hz1
  go_enter Try.func15, Try.ntmps15
  go_wp2_with fail
  refine (unhide CC _ (unhide HB) (unhide HM)).mono ?_
  rintro en w4 ⟨rfl, hw4⟩
  have hg := hw4.1.size
  have hsz : w.heap.size < w4.heap.size := by omega
  have hG := hide (show w.grownBy w4 (some m) from gr_trans (gr_below (unhide HB) _) hw4.1)
  have HI := hide hw4.2
  have s0 : ∀ i, w4.cell? ⟨w.heap.size, i, none⟩ = (w.alloc (.cells #[.int .i64 0, .int .i64 0, .int .u64 0, .int .u64 0] 44)).cell? ⟨w.heap.size, i, none⟩ := fun i => (gr_cell hw4.1 hUz hmne i).trans (unhide HR0 i)
  have s1 : ∀ i, w4.frozen? ⟨w.heap.size, i, none⟩ = (w.alloc (.cells #[.int .i64 0, .int .i64 0, .int .u64 0, .int .u64 0] 44)).frozen? ⟨w.heap.size, i, none⟩ := fun i => (gr_frozen hw4.1 hUz hmne i).trans (unhide HR1 i)
  clear hw4 hg f6 hlk p1 p2 p3
  go_wp2
  refine bodyPost_ret (v := .tuple #[.agg #[.int .i64 k, .int .i64 a, .int .u64 o, .int .u64 v], .bool b]) (by simp only [results, Try.results15]; go_simp) rfl ?_
  refine ⟨rfl, ?_, ?_⟩
  · (repeat (first | (with_reducible exact unhide hG) | (with_reducible refine gr_drew ?_) | (with_reducible refine gr_alloc ?_ _) | (with_reducible refine gr_set ?_ _) | (with_reducible refine gr_new ?_ (by omega) _))); done
  · (repeat (first | (with_reducible exact unhide HI) | (with_reducible refine IsM.drew ?_) | (with_reducible refine IsM.alloc ?_ _) | (with_reducible refine IsM.set ?_ (by omega) _) | (with_reducible refine IsM.far ?_ (by omega) _))); done

set_option maxHeartbeats 4000000 in
theorem next_over (m : Nat) (c : Nat → Value) (x pl : Int) (w : World) (H : IsM w m c) (h6 : c 6 = .int .i64 pl) (hpl : pl ≠ 1 ∧ pl ≠ 2 ∧ pl ≠ 3) (hwf : (Lit.int .i64 pl).wf = true) :
    Calls Try.prog 15 #[.pointer (some ⟨m, 0, none⟩), .int .u64 x] w
      fun en w' => en = .returned (.tuple #[.agg #[.int .i64 0, .int .i64 0, .int .u64 0, .int .u64 0], .bool false]) ∧ Below w.heap.size w w' := by
  have hm := H.1
  obtain ⟨W1, hW1⟩ : ∃ W1, w.alloc (.cells #[.int .i64 0, .int .i64 0, .int .u64 0, .int .u64 0] 44) = W1 := ⟨_, rfl⟩
  have hB1 : Below w.heap.size w W1 := by rw [← hW1]; exact (Below.refl _ _).alloc (Nat.le_refl _) _
  have hz1 : W1.heap.size = w.heap.size + 1 := by rw [← hW1]; simp
  obtain ⟨U1, U2, U3, p1, p2, p3, hl, hB3⟩ := nx_laid m W1
  have hz3 := hB3.size
  have hB : Below w.heap.size w U3 := hB1.trans (hB3.mono (by omega))
  have hlk := hl U3 (Below.refl _ _) pl hwf
  rw [show nxV m pl = .nilFunc by unfold nxV; rw [if_neg hpl.1, if_neg hpl.2.1, if_neg hpl.2.2]] at hlk
  unfold fnv at p1 p2 p3
  have HM := hide (H.keep hB)
  have f6 : U3.cell? ⟨m, 6, none⟩ = some (.int .i64 pl) := by rw [((unhide HM).2 6 (by omega)).1, h6]
  have r0 : ∀ i, U3.cell? ⟨w.heap.size, i, none⟩ = (w.alloc (.cells #[.int .i64 0, .int .i64 0, .int .u64 0, .int .u64 0] 44)).cell? ⟨w.heap.size, i, none⟩ := fun i => by rw [hW1]; exact hB3.cell (p := ⟨w.heap.size, i, none⟩) (show w.heap.size < W1.heap.size by omega)
  have r1 : ∀ i, U3.frozen? ⟨w.heap.size, i, none⟩ = (w.alloc (.cells #[.int .i64 0, .int .i64 0, .int .u64 0, .int .u64 0] 44)).frozen? ⟨w.heap.size, i, none⟩ := fun i => by rw [hW1]; exact hB3.frozen (p := ⟨w.heap.size, i, none⟩) (show w.heap.size < W1.heap.size by omega)
  have hUz : w.heap.size < U3.heap.size := by omega
  have HB := hide hB
  rw [hz1] at p1 p2 p3 hlk
  rw [← hW1] at p1
  have hmm := @run_makeMap Try.prog
  clear hB1 hB3 hz3 hl H hW1 hB hz1 hpl hwf h6
  go_enter Try.func15, Try.ntmps15
  go_wp2
  refine bodyPost_ret (v := .tuple #[.agg #[.int .i64 0, .int .i64 0, .int .u64 0, .int .u64 0], .bool false]) (by simp only [results, Try.results15]; go_simp) rfl ?_
  exact ⟨rfl, ((((unhide HB).setCell (Nat.le_refl _) _).setCell (Nat.le_refl _) _).setCell (Nat.le_refl _) _).setCell (Nat.le_refl _) _⟩

/-- What a machine tells next. -/
theorem nextM_any (q : Ask) (M : Mc) (x : Int) (m : Nat) (S : Nat → ByteArray) (hlen : q.len ≤ 9223372036854775807) (hS : ∀ i, i < q.len → (S i).size ≤ 9223372036854775807) (w : World) (hq : q.ok w S) (hfar : q.far m) (H : IsM w m (M.c q)) (hM : M.ok) (hx0 : 0 ≤ x) (hx : x ≤ 18446744073709551615) :
    Calls Try.prog 15 #[.pointer (some ⟨m, 0, none⟩), .int .u64 x] w fun en w' => en = .returned (nextM q M x).val ∧ McTo w w' m ((nextM q M x).M.c q) := by
  obtain ⟨h1, h2, h3, h4⟩ := hM
  rcases h1 with e | e | e | e
  · rw [show nextM q M x = ⟨{ M with pl := 2 }, 1, 1, 0, 0, true⟩ by unfold nextM; rw [if_pos e]]
    refine next_begins m _ _ x 1 1 0 0 true w H (show Value.int .i64 M.pl = _ by rw [e]) (fun W _ hI => (first_any m _ x W hI ⟨M.pl, rfl⟩).mono ?_)
    rintro en w' ⟨rfl, hg, hi⟩
    refine ⟨rfl, hg, hi.congr (fun i hi => ?_)⟩
    have h : i = 0 ∨ i = 1 ∨ i = 2 ∨ i = 3 ∨ i = 4 ∨ i = 5 ∨ i = 6 ∨ i = 7 ∨ i = 8 ∨ i = 9 ∨ i = 10 ∨ i = 11 ∨ i = 12 ∨ i = 13 ∨ i = 14 := by omega
    rcases h with rfl | rfl | rfl | rfl | rfl | rfl | rfl | rfl | rfl | rfl | rfl | rfl | rfl | rfl | rfl <;> rfl
  · rw [show nextM q M x = lookM q M x by unfold nextM; rw [if_neg (by omega), if_pos e]]
    exact next_loads m _ _ x _ _ _ _ _ w H (show Value.int .i64 M.pl = _ by rw [e]) (fun W hW hI => lookM_any q M x m S hlen hS W (Ask.ok_keep hq hW) hI hx0 hx)
  · exact next_swaps m _ _ x _ _ _ _ _ w H (show Value.int .i64 M.pl = _ by rw [e]) (fun W hW hI => swappedM_any q M x m S hlen hS W (Ask.ok_keep hq hW) hfar hI hx0 hx e (h2 e))
  · rw [show nextM q M x = ⟨M, 0, 0, 0, 0, false⟩ by unfold nextM; rw [if_neg (by omega), if_neg (by omega), if_neg (by omega)]]
    refine (next_over m _ x M.pl w H rfl (by omega) (by rw [e]; decide)).mono ?_
    rintro en w' ⟨rfl, hB⟩
    exact ⟨rfl, gr_below hB _, H.keep hB⟩
end Go.Proofs.Ytnnllhlcpmmcaaa
