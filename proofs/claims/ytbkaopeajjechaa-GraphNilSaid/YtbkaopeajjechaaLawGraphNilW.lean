/- The walk of GraphNil: it returns true. -/
import Derived.Test.YtbkaopeajjechaaGuG
import Derived.Test.YtbkaopeajjechaaGuH
namespace Go.Proofs.Ytbkaopeajjechaa
set_option linter.unusedVariables false
set_option linter.unusedSimpArgs false
open Go.RowKit Go.Maps

/-- The one shape. -/
def nlS (_ : Nat) : ByteArray := ⟨#[112]⟩
theorem nl_T : okT 1 nlS := ⟨by omega, by omega, fun i hi => by
  obtain rfl : i = 0 := by omega
  refine ⟨by decide, fun j hj => ?_⟩
  have hj : j < 1 := hj
  obtain rfl : j = 0 := by omega
  exact .inl rfl⟩
theorem nl_P : okPB ((1 : Nat) : Int) 32 1 nlS = true := okPB_iff.2 ⟨by omega, by omega, nl_T⟩

set_option maxRecDepth 100000 in
set_option maxHeartbeats 8000000 in
theorem graphNil_walk (a0 : Int) (_ : (Lit.int .i64 a0).wf = true) (a1 : Int) (_ : (Lit.int .i64 a1).wf = true) (a2 : Int) (_ : (Lit.int .i64 a2).wf = true) (a3 : Int) (_ : (Lit.int .i64 a3).wf = true) (a4 : Int) (_ : (Lit.int .i64 a4).wf = true) (a5 : Int) (_ : (Lit.int .i64 a5).wf = true) (a6 : Int) (_ : (Lit.int .i64 a6).wf = true) (a7 : Int) (_ : (Lit.int .i64 a7).wf = true) (a8 : Int) (_ : (Lit.int .i64 a8).wf = true) (w : World) :
    Calls Try.prog 8 #[.agg #[.int .i64 a0, .int .i64 a1, .int .i64 a2, .int .i64 a3, .int .i64 a4, .int .i64 a5, .int .i64 a6, .int .i64 a7, .int .i64 a8]] w fun e w' => e = .returned (.bool true) ∧ Below w.heap.size w w' := by
  go_enter Try.func8, Try.ntmps8
  go_wp2_with fail
  refine calls_gen ?_
  intro w0 hw0
  have hw0' : [.cells #[.int .i64 a0, .int .i64 a1, .int .i64 a2, .int .i64 a3, .int .i64 a4, .int .i64 a5, .int .i64 a6, .int .i64 a7, .int .i64 a8] 30, .cells #[.int .i64 0, .int .i64 0, .slice none 0 0, .slice none 0 0, .int .i64 0] 64].foldl World.alloc w = w0 := hw0.symm
  have hB0 := allocs_below [.cells #[.int .i64 a0, .int .i64 a1, .int .i64 a2, .int .i64 a3, .int .i64 a4, .int .i64 a5, .int .i64 a6, .int .i64 a7, .int .i64 a8] 30, .cells #[.int .i64 0, .int .i64 0, .slice none 0 0, .slice none 0 0, .int .i64 0] 64] w
  have hz0 := allocs_size [.cells #[.int .i64 a0, .int .i64 a1, .int .i64 a2, .int .i64 a3, .int .i64 a4, .int .i64 a5, .int .i64 a6, .int .i64 a7, .int .i64 a8] 30, .cells #[.int .i64 0, .int .i64 0, .slice none 0 0, .slice none 0 0, .int .i64 0] 64] w
  have hat := allocs_at [.cells #[.int .i64 a0, .int .i64 a1, .int .i64 a2, .int .i64 a3, .int .i64 a4, .int .i64 a5, .int .i64 a6, .int .i64 a7, .int .i64 a8] 30, .cells #[.int .i64 0, .int .i64 0, .slice none 0 0, .slice none 0 0, .int .i64 0] 64] w
  rw [hw0'] at hB0 hz0 hat
  simp only [List.length_cons, List.length_nil] at hz0
  have b0 : w0.heap[w.heap.size]? = _ := hat 0 _ rfl
  have b1 : w0.heap[w.heap.size + 1]? = _ := hat 1 _ rfl
  have HX := hide (fun W (hW : Below w0.heap.size w0 W) => (hW.block _ (Array.getElem?_eq_some_iff.1 b0).1).trans b0)
  have HG := hide (fun W (hW : Below w0.heap.size w0 W) => (hW.block _ (Array.getElem?_eq_some_iff.1 b1).1).trans b1)
  have HG3 : Hid (∀ W, Below w0.heap.size w0 W → W.cell? ⟨w.heap.size + 1, 3, none⟩ = some (.slice none 0 0)) := hide (fun W hW => by rw [Lib.cell_of_heap (unhide HG W hW)]; rfl)
  have HNZ := hide (fun W (hW : Below w0.heap.size w0 W) => none_zero (unhide HG3 W hW))
  have HBB := hide hB0
  have hzz : w.heap.size ≤ w0.heap.size := by omega
  clear hw0 hw0' hat b0 b1 hB0 hz0 HG
  refine (do_nil a0 (zl [a1, a2, a3, a4, a5, a6, a7, a8]) w0).mono ?_
  rintro e w1 ⟨rfl, hb1⟩
  have hb1a : Below w0.heap.size w0 (w1.alloc (.cells #[.int .i64 0, .bool false, .int .i64 0] 39)) := hb1.alloc hb1.size _
  have ho1 := (MapKept.heap_alloc w1 (.cells #[.int .i64 0, .bool false, .int .i64 0] 39)).1
  have HB1 := hide hb1a
  have HO1 := hide ho1
  have hz1 := hb1.size
  have hx := unhide HX (w1.alloc (.cells #[.int .i64 0, .bool false, .int .i64 0] 39)) (hb1a)
  have x0 : (w1.alloc (.cells #[.int .i64 0, .bool false, .int .i64 0] 39)).cell? ⟨w.heap.size, 0, none⟩ = some (.int .i64 a0) := by rw [Lib.cell_of_heap hx]; rfl
  have x1 : (w1.alloc (.cells #[.int .i64 0, .bool false, .int .i64 0] 39)).cell? ⟨w.heap.size, 1, none⟩ = some (.int .i64 a1) := by rw [Lib.cell_of_heap hx]; rfl
  have x2 : (w1.alloc (.cells #[.int .i64 0, .bool false, .int .i64 0] 39)).cell? ⟨w.heap.size, 2, none⟩ = some (.int .i64 a2) := by rw [Lib.cell_of_heap hx]; rfl
  have x3 : (w1.alloc (.cells #[.int .i64 0, .bool false, .int .i64 0] 39)).cell? ⟨w.heap.size, 3, none⟩ = some (.int .i64 a3) := by rw [Lib.cell_of_heap hx]; rfl
  have x4 : (w1.alloc (.cells #[.int .i64 0, .bool false, .int .i64 0] 39)).cell? ⟨w.heap.size, 4, none⟩ = some (.int .i64 a4) := by rw [Lib.cell_of_heap hx]; rfl
  have x5 : (w1.alloc (.cells #[.int .i64 0, .bool false, .int .i64 0] 39)).cell? ⟨w.heap.size, 5, none⟩ = some (.int .i64 a5) := by rw [Lib.cell_of_heap hx]; rfl
  have x6 : (w1.alloc (.cells #[.int .i64 0, .bool false, .int .i64 0] 39)).cell? ⟨w.heap.size, 6, none⟩ = some (.int .i64 a6) := by rw [Lib.cell_of_heap hx]; rfl
  have x7 : (w1.alloc (.cells #[.int .i64 0, .bool false, .int .i64 0] 39)).cell? ⟨w.heap.size, 7, none⟩ = some (.int .i64 a7) := by rw [Lib.cell_of_heap hx]; rfl
  have x8 : (w1.alloc (.cells #[.int .i64 0, .bool false, .int .i64 0] 39)).cell? ⟨w.heap.size, 8, none⟩ = some (.int .i64 a8) := by rw [Lib.cell_of_heap hx]; rfl
  clear hx
  clear hb1 hb1a ho1
  go_wp2_with fail
  refine (do_zero a0 (zl [a1, a2, a3, a4, a5, a6, a7, a8]) (unhide HG3 _ (unhide HB1))).mono ?_
  rintro e w2 ⟨rfl, hb2⟩
  clear x0 x1 x2 x3 x4 x5 x6 x7 x8
  have hz1a := (unhide HB1).size
  have hB2 := (unhide HB1).trans (hb2.mono hz1a)
  have hl1 := (Array.getElem?_eq_some_iff.1 (unhide HO1)).1
  have hz12 := hb2.size
  have ho2 := (MapKept.heap_alloc w2 (.cells #[.int .i64 0, .bool false, .int .i64 0] 39)).1
  have hbx : Below w2.heap.size w2 (w2.alloc (.cells #[.int .i64 0, .bool false, .int .i64 0] 39)) := (Below.refl _ _).alloc (Nat.le_refl _) _
  have hB2a : Below w0.heap.size w0 (w2.alloc (.cells #[.int .i64 0, .bool false, .int .i64 0] 39)) := hB2.trans (hbx.mono hB2.size)
  have HA1 := hide (((hbx.block w1.heap.size (by omega)).trans ((hb2.block w1.heap.size hl1).trans (unhide HO1))))
  have HA2 := hide ho2
  have HB2 := hide hB2a
  have hs1 := hB2.size
  have hlt12 : w1.heap.size < w2.heap.size := by omega
  clear hb2 hB2 ho2 hbx hB2a hl1 HO1 HB1 hz1a hz12
  go_wp2_with fail
  refine calls_gen ?_
  intro w3 hw3
  have hbs : Below (w2.alloc (.cells #[.int .i64 0, .bool false, .int .i64 0] 39)).heap.size (w2.alloc (.cells #[.int .i64 0, .bool false, .int .i64 0] 39)) w3 := by rw [hw3]; repeat (first | exact Below.refl _ _ | assumption | refine Below.alloc ?_ (by first | (simp; done) | (simp; omega) | omega) _ | refine Below.setCell ?_ (by first | (simp; done) | (simp; omega) | omega) _ | apply Below.drew | refine Below.trans ?_ (Below.mono (by assumption) (by first | (simp; done) | (simp; omega) | omega)))
  have hsh : ShOk w3 (some ⟨(w2.alloc (.cells #[.int .i64 0, .bool false, .int .i64 0] 39)).heap.size, 0, none⟩) 1 nlS := by
    rw [hw3]
    exact fun _ => ⟨_, 0, rfl, by simp, fun i hi => by
      obtain rfl : i = 0 := by omega
      exact (World.cell?_alloc_new _ _ _ _).trans rfl⟩
  have hA1 := (hbs.block w1.heap.size (by simp; omega)).trans (unhide HA1)
  have hA2 := (hbs.block w2.heap.size (by simp)).trans (unhide HA2)
  have hB3 : Below w0.heap.size w0 w3 := (unhide HB2).trans (hbs.mono (unhide HB2).size)
  simp only [World.size_alloc] at hsh
  clear hw3 hbs HA1 HA2 HB2
  refine (st1_new (T := 1) (sp := 32) (len := 1) (S := nlS) (cap := 1) (Below.refl _ w3) hsh nl_P).mono ?_
  rintro e w4 ⟨g, rfl, h4⟩
  have hb4 := St.b h4
  have hA1 := (hb4.block w1.heap.size (Array.getElem?_eq_some_iff.1 hA1).1).trans hA1
  have hA2 := (hb4.block w2.heap.size (Array.getElem?_eq_some_iff.1 hA2).1).trans hA2
  have hB4 : Below w0.heap.size w0 w4 := hB3.trans (hb4.mono hB3.size)
  have HN : Hid (∀ W, Below w4.heap.size w4 W → Calls Try.prog 31 #[.pointer (some ⟨g, 0, none⟩)] W fun e w' => e = .returned (.bool false) ∧ W = w') := hide (fun W hW => by
    obtain ⟨L, hL, hG⟩ := St.isG (St.below h4 hW) (i := 0) (by omega)
    have hL : L.g = g := hL
    rw [← hL]
    exact none_no hG)
  have m10 : w4.cell? ⟨w1.heap.size, 0, none⟩ = some (.int .i64 0) := by rw [Lib.cell_of_heap hA1]; rfl
  have m11 : w4.cell? ⟨w1.heap.size, 1, none⟩ = some (.bool false) := by rw [Lib.cell_of_heap hA1]; rfl
  have m12 : w4.cell? ⟨w1.heap.size, 2, none⟩ = some (.int .i64 0) := by rw [Lib.cell_of_heap hA1]; rfl
  have m20 : w4.cell? ⟨w2.heap.size, 0, none⟩ = some (.int .i64 0) := by rw [Lib.cell_of_heap hA2]; rfl
  have m21 : w4.cell? ⟨w2.heap.size, 1, none⟩ = some (.bool false) := by rw [Lib.cell_of_heap hA2]; rfl
  have m22 : w4.cell? ⟨w2.heap.size, 2, none⟩ = some (.int .i64 0) := by rw [Lib.cell_of_heap hA2]; rfl
  have hf0 : ∀ W : World, (Instr.field 56 (.agg #[.slice none 0 0, .slice none 0 0]) 0).run Try.prog W = .ok (.slice none 0 0) W := fun _ => by kernel_rfl
  have hf1 : ∀ W : World, (Instr.field 56 (.agg #[.slice none 0 0, .slice none 0 0]) 1).run Try.prog W = .ok (.slice none 0 0) W := fun _ => by kernel_rfl
  have HB4 := hide hB4
  clear h4 hb4 hA1 hA2 hB3 hB4 hsh
  go_wp2_with (first | (go_at_call 12; refine (num_any _ _).mono ?_; rintro e w' ⟨rfl, rfl⟩))
  have HC := HB4
  have HD : Hid (Below w4.heap.size w4 w4) := hide (Below.refl _ _)
  clear HB4
  refine (view_none none _ (fun W _ => none_nil W)).mono ?_
  rintro e w_v1 ⟨rfl, hb⟩
  have HC2 := hide ((unhide HC).trans (hb.mono (unhide HC).size))
  have HD2 := hide ((unhide HD).trans (hb.mono (unhide HD).size))
  clear hb HC HD
  have HC := HC2
  have HD := HD2
  clear HC2 HD2
  go_wp2_with fail
  refine (view_none _ _ (fun W hW => unhide HNZ W ((unhide HC).trans (hW.mono (unhide HC).size)))).mono ?_
  rintro e w_v2 ⟨rfl, hb⟩
  have HC2 := hide ((unhide HC).trans (hb.mono (unhide HC).size))
  have HD2 := hide ((unhide HD).trans (hb.mono (unhide HD).size))
  clear hb HC HD
  have HC := HC2
  have HD := HD2
  clear HC2 HD2
  go_wp2_with fail
  refine (words_none none _ (fun W _ => none_nil W)).mono ?_
  rintro e w_w1 ⟨rfl, hb⟩
  have HC2 := hide ((unhide HC).trans (hb.mono (unhide HC).size))
  have HD2 := hide ((unhide HD).trans (hb.mono (unhide HD).size))
  clear hb HC HD
  have HC := HC2
  have HD := HD2
  clear HC2 HD2
  go_wp2_with fail
  refine (words_none _ _ (fun W hW => unhide HNZ W ((unhide HC).trans (hW.mono (unhide HC).size)))).mono ?_
  rintro e w_w2 ⟨rfl, hb⟩
  have HC2 := hide ((unhide HC).trans (hb.mono (unhide HC).size))
  have HD2 := hide ((unhide HD).trans (hb.mono (unhide HD).size))
  clear hb HC HD
  have HC := HC2
  have HD := HD2
  clear HC2 HD2
  go_wp2_with fail
  refine (made_nil _).mono ?_
  rintro e w' ⟨rfl, rfl⟩
  go_wp2_with fail
  refine (made_zero (unhide HG3 _ (unhide HC))).mono ?_
  rintro e w' ⟨rfl, rfl⟩
  go_wp2_with fail
  refine (copy_none none _ (fun W _ => none_nil W)).mono ?_
  rintro e w_c1 ⟨rfl, hb⟩
  have HC2 := hide ((unhide HC).trans (hb.mono (unhide HC).size))
  have HD2 := hide ((unhide HD).trans (hb.mono (unhide HD).size))
  clear hb HC HD
  have HC := HC2
  have HD := HD2
  clear HC2 HD2
  go_wp2_with fail
  refine (copy_none _ _ (fun W hW => unhide HNZ W ((unhide HC).trans (hW.mono (unhide HC).size)))).mono ?_
  rintro e w_c2 ⟨rfl, hb⟩
  have HC2 := hide ((unhide HC).trans (hb.mono (unhide HC).size))
  have HD2 := hide ((unhide HD).trans (hb.mono (unhide HD).size))
  clear hb HC HD
  have HC := HC2
  have HD := HD2
  clear HC2 HD2
  go_wp2_with fail
  refine (same_nn none _ _ (fun W _ => none_nil W) (fun W hW => unhide HNZ W ((unhide HC).trans (hW.mono (unhide HC).size)))).mono ?_
  rintro e w_s1 ⟨rfl, hb⟩
  have HC2 := hide ((unhide HC).trans (hb.mono (unhide HC).size))
  have HD2 := hide ((unhide HD).trans (hb.mono (unhide HD).size))
  clear hb HC HD
  have HC := HC2
  have HD := HD2
  clear HC2 HD2
  go_wp2_with fail
  refine (same_ng none _ _ (fun W _ => none_nil W) (fun W hW => unhide HN W ((unhide HD).trans (hW.mono (unhide HD).size)))).mono ?_
  rintro e w_s2 ⟨rfl, hb⟩
  have HC2 := hide ((unhide HC).trans (hb.mono (unhide HC).size))
  have HD2 := hide ((unhide HD).trans (hb.mono (unhide HD).size))
  clear hb HC HD
  have HC := HC2
  have HD := HD2
  clear HC2 HD2
  go_wp2_with fail
  refine (same_gn _ _ _ (fun W hW => unhide HN W ((unhide HD).trans (hW.mono (unhide HD).size))) (fun W hW => unhide HNZ W ((unhide HC).trans (hW.mono (unhide HC).size)))).mono ?_
  rintro e w_s3 ⟨rfl, hb⟩
  have HC2 := hide ((unhide HC).trans (hb.mono (unhide HC).size))
  have HD2 := hide ((unhide HD).trans (hb.mono (unhide HD).size))
  clear hb HC HD
  have HC := HC2
  have HD := HD2
  clear HC2 HD2
  go_wp2_with fail
  refine (works09_any _).mono ?_
  rintro e w13 ⟨rfl, hb13⟩
  have HB := hide ((unhide HBB).trans (((unhide HC).trans (hb13.mono (unhide HC).size)).mono hzz))
  clear hb13
  go_wp2
  go_ret
  exact ⟨rfl, unhide HB⟩
end Go.Proofs.Ytbkaopeajjechaa
