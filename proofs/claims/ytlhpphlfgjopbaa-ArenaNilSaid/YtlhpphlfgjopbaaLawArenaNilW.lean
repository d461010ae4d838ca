/- The walk of ArenaNil: it returns true. -/
import Derived.Test.YtlhpphlfgjopbaaArI
import Derived.Test.YtlhpphlfgjopbaaArK
import Derived.Test.YtlhpphlfgjopbaaArD
import Derived.Test.YtlhpphlfgjopbaaArL
import Derived.Test.YtlhpphlfgjopbaaArF
import Derived.Test.YtlhpphlfgjopbaaOp
import Derived.Deep.RegionHeld3
namespace Go.Proofs.Ytlhpphlfgjopbaa
set_option linter.unusedVariables false
set_option linter.unusedSimpArgs false
open Go.RowKit Go.Shelf

attribute [local go_sem] Oper.semAt_some
@[local go_sem] theorem eql_all3 (w : World) (f : Fn) (c a : Array Value) : (binOp .eql 46 (.func f c a) .nilFunc).run Try.prog w = .ok (.bool false) w := run_eql_func_nil w f c a (by kernel_rfl)

theorem c1_new (W : World) : Calls Try.prog 14 #[.int .i64 1] W fun e w' => ∃ g h, e = .returned (.tuple #[.pointer (some ⟨g, 0, none⟩), .int .i64 0]) ∧ Below W.heap.size W w' ∧ W.heap.size ≤ g ∧ W.heap.size ≤ h ∧ IsAr w' g h 1 (fun _ => 0) :=
  new_yes 1 (by omega) (by omega) W

set_option maxRecDepth 100000 in
set_option maxHeartbeats 8000000 in
theorem arenaNil_walk (k : Int) (hwk : (Lit.int .i64 k).wf = true) (a : Int) (hwa : (Lit.int .i64 a).wf = true) (o : Int) (hwo : (Lit.int .u64 o).wf = true) (v : Int) (hwv : (Lit.int .u64 v).wf = true) (x : Int) (hwx : (Lit.int .u64 x).wf = true) (w : World) :
    Calls Try.prog 8 #[.agg #[.int .i64 k, .int .i64 a, .int .u64 o, .int .u64 v], .int .u64 x] w fun e w' => e = .returned (.bool true) ∧ Below w.heap.size w w' := by
  refine (callsIn_wide (n := 8)).1 ?_
  refine callsIn_of_wp_marks Try.func8 rfl trivial ?_ rfl
  simp only [Try.ntmps8, List.size_toArray, List.length_cons, List.length_nil, Nat.reduceAdd, Nat.reduceSub, Array.replicate_succ, Array.replicate_zero, List.push_toArray, List.append_toArray, List.nil_append, List.cons_append]
  gi_wp2
  obtain ⟨w0, hw0⟩ : ∃ W, W = ((w.alloc (.cells #[.int .i64 k, .int .i64 a, .int .u64 o, .int .u64 v] 30)).alloc (.cells #[.slice none 0 0] 58)) := ⟨_, rfl⟩
  have hs0 : w0.heap.size = w.heap.size + 2 := by rw [hw0]; simp
  have hB0 : Below w.heap.size w w0 := by rw [hw0]; repeat (first | exact Below.refl _ _ | assumption | refine Below.alloc ?_ (by first | (simp; done) | (simp; omega) | omega) _ | refine Below.setCell ?_ (by first | (simp; done) | (simp; omega) | omega) _ | apply Below.drew | refine Below.trans ?_ (Below.mono (by assumption) (by first | (simp; done) | (simp; omega) | omega)))
  have HZ0 : Hid (Gone w0 (some ⟨w.heap.size + 1, 0, none⟩)) := hide (.inr ⟨w.heap.size + 1, rfl, by omega, by rw [hw0]; go_simp⟩)
  have x0_0 : w0.cell? ⟨w.heap.size, 0, none⟩ = some (.int .i64 k) := by rw [hw0]; go_simp
  have x0_1 : w0.cell? ⟨w.heap.size, 1, none⟩ = some (.int .i64 a) := by rw [hw0]; go_simp
  have x0_2 : w0.cell? ⟨w.heap.size, 2, none⟩ = some (.int .u64 o) := by rw [hw0]; go_simp
  have x0_3 : w0.cell? ⟨w.heap.size, 3, none⟩ = some (.int .u64 v) := by rw [hw0]; go_simp
  rw [← hw0]
  clear hw0
  refine ⟨trivial, ?_⟩
  refine (callsIn_wide.2 (ld_gone none a w0 (.inl rfl))).mono ?_
  rintro e w1 ⟨rfl, hb1⟩
  have hs1 := hb1.size
  have hB1 : Below w.heap.size w w1 := hB0.trans (hb1.mono (by omega))
  have HZ1 := hide ((unhide HZ0).keep hb1)
  have x1_0 := (hb1.cell (p := ⟨w.heap.size, 0, none⟩) (by show w.heap.size < _; omega)).trans x0_0
  have x1_1 := (hb1.cell (p := ⟨w.heap.size, 1, none⟩) (by show w.heap.size < _; omega)).trans x0_1
  have x1_2 := (hb1.cell (p := ⟨w.heap.size, 2, none⟩) (by show w.heap.size < _; omega)).trans x0_2
  have x1_3 := (hb1.cell (p := ⟨w.heap.size, 3, none⟩) (by show w.heap.size < _; omega)).trans x0_3
  clear hb1
  gi_wp2
  refine ⟨trivial, ?_⟩
  refine (callsIn_wide.2 (st_gone (some ⟨w.heap.size + 1, 0, none⟩) a x w1 (unhide HZ1))).mono ?_
  rintro e w2 ⟨rfl, hb2⟩
  have hs2 := hb2.size
  have hB2 : Below w.heap.size w w2 := hB1.trans (hb2.mono (by omega))
  have HZ2 := hide ((unhide HZ1).keep hb2)
  have x2_0 := (hb2.cell (p := ⟨w.heap.size, 0, none⟩) (by show w.heap.size < _; omega)).trans x1_0
  have x2_1 := (hb2.cell (p := ⟨w.heap.size, 1, none⟩) (by show w.heap.size < _; omega)).trans x1_1
  have x2_2 := (hb2.cell (p := ⟨w.heap.size, 2, none⟩) (by show w.heap.size < _; omega)).trans x1_2
  have x2_3 := (hb2.cell (p := ⟨w.heap.size, 3, none⟩) (by show w.heap.size < _; omega)).trans x1_3
  clear hb2
  gi_wp2
  refine ⟨trivial, ?_⟩
  refine (callsIn_wide.2 (cs_gone none a o v w2 (.inl rfl))).mono ?_
  rintro e w3 ⟨rfl, hb3⟩
  have hs3 := hb3.size
  have hB3 : Below w.heap.size w w3 := hB2.trans (hb3.mono (by omega))
  have HZ3 := hide ((unhide HZ2).keep hb3)
  have x3_0 := (hb3.cell (p := ⟨w.heap.size, 0, none⟩) (by show w.heap.size < _; omega)).trans x2_0
  have x3_1 := (hb3.cell (p := ⟨w.heap.size, 1, none⟩) (by show w.heap.size < _; omega)).trans x2_1
  have x3_2 := (hb3.cell (p := ⟨w.heap.size, 2, none⟩) (by show w.heap.size < _; omega)).trans x2_2
  have x3_3 := (hb3.cell (p := ⟨w.heap.size, 3, none⟩) (by show w.heap.size < _; omega)).trans x2_3
  clear hb3
  gi_wp2
  refine ⟨trivial, ?_⟩
  refine (callsIn_wide.2 (do_gone (some ⟨w.heap.size + 1, 0, none⟩) k a o v w3 (unhide HZ3))).mono ?_
  rintro e w4 ⟨rfl, hb4⟩
  have hs4 := hb4.size
  have hB4 : Below w.heap.size w w4 := hB3.trans (hb4.mono (by omega))
  have HZ4 := hide ((unhide HZ3).keep hb4)
  clear hb4
  gi_wp2
  refine ⟨trivial, ?_⟩
  refine (callsIn_wide.2 (all_any _ ⟨_, rfl⟩ _)).mono ?_
  rintro e w5 ⟨rfl, hE⟩
  have n5 : w5.cell? ⟨w4.heap.size, 0, none⟩ = some (.int .i64 0) := by subst hE; go_simp
  have c5 : w5.cell? ⟨w4.heap.size + 1, 0, none⟩ = some (.pointer none) := by subst hE; go_simp
  have hs5 : w4.heap.size + 2 ≤ w5.heap.size := by rw [← hE]; simp
  have hb5 : Below w4.heap.size w4 w5 := by
    rw [← hE]
    repeat (first | exact Below.refl _ _ | assumption | refine Below.alloc ?_ (by first | (simp; done) | (simp; omega) | omega) _ | refine Below.setCell ?_ (by first | (simp; done) | (simp; omega) | omega) _ | apply Below.drew | refine Below.trans ?_ (Below.mono (by assumption) (by first | (simp; done) | (simp; omega) | omega)))
  have hB5 : Below w.heap.size w w5 := hB4.trans (hb5.mono (by omega))
  have HZ5 := hide ((unhide HZ4).keep hb5)
  clear hE hb5
  gi_wp2
  refine ⟨trivial, ?_⟩
  refine (callsIn_wide.2 (all_any _ ⟨_, rfl⟩ _)).mono ?_
  rintro e w6 ⟨rfl, hE⟩
  have c6 : w6.cell? ⟨w5.heap.size, 0, none⟩ = some (.pointer (some ⟨w.heap.size + 1, 0, none⟩)) := by subst hE; go_simp
  have hs6 : w5.heap.size + 1 ≤ w6.heap.size := by rw [← hE]; simp
  have hb6 : Below w5.heap.size w5 w6 := by
    rw [← hE]
    repeat (first | exact Below.refl _ _ | assumption | refine Below.alloc ?_ (by first | (simp; done) | (simp; omega) | omega) _ | refine Below.setCell ?_ (by first | (simp; done) | (simp; omega) | omega) _ | apply Below.drew | refine Below.trans ?_ (Below.mono (by assumption) (by first | (simp; done) | (simp; omega) | omega)))
  have hB6 : Below w.heap.size w w6 := hB5.trans (hb6.mono (by omega))
  have HZ6 := hide ((unhide HZ5).keep hb6)
  have n6 := (hb6.cell (p := ⟨w4.heap.size, 0, none⟩) (by show w4.heap.size < _; omega)).trans n5
  clear hE hb6
  gi_wp2
  refine ⟨trivial, ?_⟩
  refine (callsIn_wide.2 (all_any _ ⟨_, rfl⟩ _)).mono ?_
  rintro e w7 ⟨rfl, hE⟩
  have c7 : w7.cell? ⟨w6.heap.size, 0, none⟩ = some (.pointer none) := by subst hE; go_simp
  have hs7 : w6.heap.size + 1 ≤ w7.heap.size := by rw [← hE]; simp
  have hb7 : Below w6.heap.size w6 w7 := by
    rw [← hE]
    repeat (first | exact Below.refl _ _ | assumption | refine Below.alloc ?_ (by first | (simp; done) | (simp; omega) | omega) _ | refine Below.setCell ?_ (by first | (simp; done) | (simp; omega) | omega) _ | apply Below.drew | refine Below.trans ?_ (Below.mono (by assumption) (by first | (simp; done) | (simp; omega) | omega)))
  have hB7 : Below w.heap.size w w7 := hB6.trans (hb7.mono (by omega))
  have HZ7 := hide ((unhide HZ6).keep hb7)
  have n7 := (hb7.cell (p := ⟨w4.heap.size, 0, none⟩) (by show w4.heap.size < _; omega)).trans n6
  clear hE hb7
  gi_wp2
  refine wpIn_rangeFunc_ownG rfl (by omega) (gf := 36) (lb := #[.pointer (some ⟨w6.heap.size, 0, none⟩)]) rfl trivial (enters_of Try.func36 (by kernel_rfl) rfl)
    (all_stops_gone 7 (by omega) none w6.heap.size w7.heap.size w7 (.inl rfl) (by omega) (Nat.le_refl _) c7) belowK_t (belowK_b (Nat.le_refl _)) (Below.refl _ _) (fun _ => rfl)
    (fun _ W => Below w7.heap.size w7 W) (fun _ _ _ => False) (ownFrom_below (Nat.le_refl _) (Nat.le_refl _)) (fun _ _ _ _ _ hs _ _ => hs) (Below.refl _ _)
    _ (fun l x W K hK => wpIn_skip hK) (fun l pre x W _ hl => absurd hl (by simp)) ?done (fun D c pre W _ _ h _ => h.elim)
  case done =>
    rintro D ys w8 hD rfl hb8 hK
    have hs8 := hb8.size
    have hB8 : Below w.heap.size w w8 := hB7.trans (hb8.mono (by omega))
    have HZ8 := hide ((unhide HZ7).keep hb8)
    have n8 := (hb8.cell (p := ⟨w4.heap.size, 0, none⟩) (by show w4.heap.size < _; omega)).trans n7
    have hDW : D < w8.heap.size := (Array.getElem?_eq_some_iff.1 hK).1
    clear hb8
    gi_wp2
    refine ⟨trivial, ?_⟩
    refine (callsIn_wide.2 (all_any _ ⟨_, rfl⟩ _)).mono ?_
    rintro e w9 ⟨rfl, hE⟩
    have c9 : w9.cell? ⟨w8.heap.size, 0, none⟩ = some (.pointer (some ⟨w.heap.size + 1, 0, none⟩)) := by subst hE; go_simp
    have hs9 : w8.heap.size + 1 ≤ w9.heap.size := by rw [← hE]; simp
    have hb9 : Below w8.heap.size w8 w9 := by
      rw [← hE]
      repeat (first | exact Below.refl _ _ | assumption | refine Below.alloc ?_ (by first | (simp; done) | (simp; omega) | omega) _ | refine Below.setCell ?_ (by first | (simp; done) | (simp; omega) | omega) _ | apply Below.drew | refine Below.trans ?_ (Below.mono (by assumption) (by first | (simp; done) | (simp; omega) | omega)))
    have hB9 : Below w.heap.size w w9 := hB8.trans (hb9.mono (by omega))
    have HZ9 := hide ((unhide HZ8).keep hb9)
    have n9 := (hb9.cell (p := ⟨w4.heap.size, 0, none⟩) (by show w4.heap.size < _; omega)).trans n8
    have hK9 := (hb9.block D hDW).trans hK
    clear hE hb9
    gi_wp2
    refine wpIn_rangeFunc_ownG rfl (by omega) (gf := 36) (lb := #[.pointer (some ⟨w8.heap.size, 0, none⟩)]) rfl trivial (enters_of Try.func36 (by kernel_rfl) rfl)
      (all_stops_gone 7 (by omega) (some ⟨w.heap.size + 1, 0, none⟩) w8.heap.size w9.heap.size w9 (unhide HZ9) (by omega) (Nat.le_refl _) c9) belowK_t (belowK_b (Nat.le_refl _)) (Below.refl _ _) (fun _ => rfl)
      (fun _ W => Below w9.heap.size w9 W) (fun _ _ _ => False) (ownFrom_below (Nat.le_refl _) (Nat.le_refl _)) (fun _ _ _ _ _ hs _ _ => hs) (Below.refl _ _)
      _ (fun l x W K hK => wpIn_skip hK) (fun l pre x W _ hl => absurd hl (by simp)) ?done2 (fun D c pre W _ _ h _ => h.elim)
    case done2 =>
      rintro D2 ys w10 hD2 rfl hb10 hK2
      have hs10 := hb10.size
      have hB10 : Below w.heap.size w w10 := hB9.trans (hb10.mono (by omega))
      have HZ10 := hide ((unhide HZ9).keep hb10)
      have n10 := (hb10.cell (p := ⟨w4.heap.size, 0, none⟩) (by show w4.heap.size < _; omega)).trans n9
      have hK1 := (hb10.block D (by omega)).trans hK9
      have hDW2 : D2 < w10.heap.size := (Array.getElem?_eq_some_iff.1 hK2).1
      clear hb10
      gi_wp2
      refine ⟨trivial, ?_⟩
      refine (callsIn_wide.2 (c1_new w10)).mono ?_
      rintro e w11 ⟨g, h, rfl, hb11, hg, hh, H11⟩
      have hs11 := hb11.size
      have hB11 : Below w.heap.size w w11 := hB10.trans (hb11.mono (by omega))
      have HZ11 := hide ((unhide HZ10).keep hb11)
      have n11 := (hb11.cell (p := ⟨w4.heap.size, 0, none⟩) (by show w4.heap.size < _; omega)).trans n10
      have k1_11 := (hb11.block D (by omega)).trans hK1
      have k2_11 := (hb11.block D2 hDW2).trans hK2
      have H11 := hide H11
      clear hb11
      gi_wp2
      refine ⟨trivial, ?_⟩
      refine (callsIn_wide.2 (num5_any _ _)).mono ?_
      rintro e wn0 ⟨rfl, rfl⟩
      gi_wp2
      refine ⟨trivial, ?_⟩
      refine (callsIn_wide.2 (num5_any _ _)).mono ?_
      rintro e wn1 ⟨rfl, rfl⟩
      gi_wp2
      refine ⟨trivial, ?_⟩
      refine (callsIn_wide.2 (num5_any _ _)).mono ?_
      rintro e wn2 ⟨rfl, rfl⟩
      gi_wp2
      refine ⟨trivial, ?_⟩
      refine (callsIn_wide.2 (num5_any _ _)).mono ?_
      rintro e wn3 ⟨rfl, rfl⟩
      gi_wp2
      refine ⟨trivial, ?_⟩
      refine (callsIn_wide.2 (num5_any _ _)).mono ?_
      rintro e wn4 ⟨rfl, rfl⟩
      gi_wp2
      refine ⟨trivial, ?_⟩
      refine (callsIn_wide.2 (len_gone none w11 (.inl rfl))).mono ?_
      rintro e w12 ⟨rfl, hb12⟩
      have hs12 := hb12.size
      have hB12 : Below w.heap.size w w12 := hB11.trans (hb12.mono (by omega))
      have HZ12 := hide ((unhide HZ11).keep hb12)
      have H12 := hide ((unhide H11).keep hb12)
      have k1_12 := (hb12.block D (by omega)).trans k1_11
      have k2_12 := (hb12.block D2 (by omega)).trans k2_11
      clear hb12
      gi_wp2
      refine ⟨trivial, ?_⟩
      refine (callsIn_wide.2 (len_gone (some ⟨w.heap.size + 1, 0, none⟩) w12 (unhide HZ12))).mono ?_
      rintro e w13 ⟨rfl, hb13⟩
      have hs13 := hb13.size
      have hB13 : Below w.heap.size w w13 := hB12.trans (hb13.mono (by omega))
      have HZ13 := hide ((unhide HZ12).keep hb13)
      have H13 := hide ((unhide H12).keep hb13)
      have k1_13 := (hb13.block D (by omega)).trans k1_12
      have k2_13 := (hb13.block D2 (by omega)).trans k2_12
      clear hb13
      gi_wp2
      refine ⟨trivial, ?_⟩
      refine (callsIn_wide.2 (copy_gone none w13 (.inl rfl))).mono ?_
      rintro e w14 ⟨rfl, hb14⟩
      have hs14 := hb14.size
      have hB14 : Below w.heap.size w w14 := hB13.trans (hb14.mono (by omega))
      have HZ14 := hide ((unhide HZ13).keep hb14)
      have H14 := hide ((unhide H13).keep hb14)
      have k1_14 := (hb14.block D (by omega)).trans k1_13
      have k2_14 := (hb14.block D2 (by omega)).trans k2_13
      clear hb14
      gi_wp2
      refine ⟨trivial, ?_⟩
      refine (callsIn_wide.2 (copy_gone (some ⟨w.heap.size + 1, 0, none⟩) w14 (unhide HZ14))).mono ?_
      rintro e w15 ⟨rfl, hb15⟩
      have hs15 := hb15.size
      have hB15 : Below w.heap.size w w15 := hB14.trans (hb15.mono (by omega))
      have HZ15 := hide ((unhide HZ14).keep hb15)
      have H15 := hide ((unhide H14).keep hb15)
      have k1_15 := (hb15.block D (by omega)).trans k1_14
      have k2_15 := (hb15.block D2 (by omega)).trans k2_14
      clear hb15
      gi_wp2
      refine ⟨trivial, ?_⟩
      refine (callsIn_wide.2 (same_gone none (some ⟨w.heap.size + 1, 0, none⟩) w15 (.inl rfl) (unhide HZ15))).mono ?_
      rintro e w16 ⟨rfl, hb16⟩
      have hs16 := hb16.size
      have hB16 : Below w.heap.size w w16 := hB15.trans (hb16.mono (by omega))
      have HZ16 := hide ((unhide HZ15).keep hb16)
      have H16 := hide ((unhide H15).keep hb16)
      have k1_16 := (hb16.block D (by omega)).trans k1_15
      have k2_16 := (hb16.block D2 (by omega)).trans k2_15
      clear hb16
      gi_wp2
      refine ⟨trivial, ?_⟩
      refine (callsIn_wide.2 (same_left none g h 1 (fun _ => 0) w16 (.inl rfl) (unhide H16))).mono ?_
      rintro e w17 ⟨rfl, hb17⟩
      have hs17 := hb17.size
      have hB17 : Below w.heap.size w w17 := hB16.trans (hb17.mono (by omega))
      have HZ17 := hide ((unhide HZ16).keep hb17)
      have H17 := hide ((unhide H16).keep hb17)
      have k1_17 := (hb17.block D (by omega)).trans k1_16
      have k2_17 := (hb17.block D2 (by omega)).trans k2_16
      clear hb17
      gi_wp2
      refine ⟨trivial, ?_⟩
      refine (callsIn_wide.2 (same_right (some ⟨w.heap.size + 1, 0, none⟩) g h 1 (fun _ => 0) w17 (unhide HZ17) (unhide H17))).mono ?_
      rintro e w18 ⟨rfl, hb18⟩
      have hs18 := hb18.size
      have hB18 : Below w.heap.size w w18 := hB17.trans (hb18.mono (by omega))
      have HZ18 := hide ((unhide HZ17).keep hb18)
      have H18 := hide ((unhide H17).keep hb18)
      have k1_18 := (hb18.block D (by omega)).trans k1_17
      have k2_18 := (hb18.block D2 (by omega)).trans k2_17
      clear hb18
      gi_wp2
      refine ⟨trivial, ?_⟩
      refine (callsIn_wide.2 (unlike_nil _ w18)).mono ?_
      rintro e w19 ⟨rfl, hb19⟩
      have hs19 := hb19.size
      have hB19 : Below w.heap.size w w19 := hB18.trans (hb19.mono (by omega))
      have HZ19 := hide ((unhide HZ18).keep hb19)
      have H19 := hide ((unhide H18).keep hb19)
      have k1_19 := (hb19.block D (by omega)).trans k1_18
      have k2_19 := (hb19.block D2 (by omega)).trans k2_18
      clear hb19
      gi_wp2
      refine ⟨trivial, ?_⟩
      refine (callsIn_wide.2 (works5_any w19)).mono ?_
      rintro e w20 ⟨rfl, hb20⟩
      have hs20 := hb20.size
      have hB20 : Below w.heap.size w w20 := hB19.trans (hb20.mono (by omega))
      have HZ20 := hide ((unhide HZ19).keep hb20)
      have H20 := hide ((unhide H19).keep hb20)
      have k1_20 := (hb20.block D (by omega)).trans k1_19
      have k2_20 := (hb20.block D2 (by omega)).trans k2_19
      clear hb20
      gi_wp2
      have hne : D2 ≠ D := by omega
      have kk : (w20.putObj D2 (.deferred none)).heap[D]? = some (.deferred (some [])) := by
        rw [show (w20.putObj D2 (.deferred none)).heap[D]? = w20.heap[D]? from by simp [World.putObj, Array.getElem?_setIfInBounds, hne]]
        exact k1_20
      have hDw : w.heap.size ≤ D := by omega
      have hD2w : w.heap.size ≤ D2 := by omega
      refine ⟨by simp, .inl ⟨_, _, rfl, run_takeDeferred k2_20, ⟨by simp, .inl ⟨_, _, rfl, run_takeDeferred kk, ?_⟩⟩⟩⟩
      exact ⟨_, results_tmp rfl _ _ _, rfl, (hB20.trans (belowK_b (w := w) (Nat.le_refl _) w20 D2 _ _ hD2w k2_20 rfl rfl)).trans (belowK_b (w := w) (Nat.le_refl _) _ D _ _ hDw kk rfl rfl)⟩
end Go.Proofs.Ytlhpphlfgjopbaa
