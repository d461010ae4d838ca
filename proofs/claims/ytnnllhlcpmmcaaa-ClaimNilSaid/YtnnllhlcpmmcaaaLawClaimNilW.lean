/- The walk of ClaimNil: it returns true. -/
import Derived.Test.YtnnllhlcpmmcaaaClR
import Derived.Test.YtnnllhlcpmmcaaaOp
namespace Go.Proofs.Ytnnllhlcpmmcaaa
set_option linter.unusedVariables false
set_option linter.unusedSimpArgs false
open Go.RowKit

def zeroC : Nat → Value := mkC 0 0 none 0 0 0 0 0 0 0 0 0 0 0 0 0 0

set_option maxRecDepth 100000 in
set_option maxHeartbeats 4000000 in
theorem claimNil_walk (a : Int) (ha : (Lit.int .u64 a).wf = true) (w : World) :
    Calls Try.prog 7 #[.int .u64 a] w fun e w' => e = .returned (.bool true) ∧ Below w.heap.size w w' := by
  clear ha
  have HM := hide (newM_cells w 78 0 0 none 0 0 0 0 0 0 0 0 0 0 0 0 0 0)
  go_enter Try.func7, Try.ntmps7
  go_wp2_with fail
  refine (next_nil a _).mono ?_
  rintro en w2 ⟨rfl, h2⟩
  have HM2 := hide ((unhide HM).keep h2)
  have BL2 : Below w.heap.size w w2 := by repeat (first | exact Below.refl _ _ | assumption | refine Below.alloc ?_ (by first | (simp; done) | (simp; omega) | omega) _ | refine Below.setCell ?_ (by first | (simp; done) | (simp; omega) | omega) _ | apply Below.drew | refine Below.trans ?_ (Below.mono (by assumption) (by first | (simp; done) | (simp; omega) | omega)))
  have hz2 := BL2.size
  clear h2 HM
  have hBa : Below w2.heap.size w2 (w2.alloc (.cells #[.int .i64 0, .int .i64 0, .int .u64 0, .int .u64 0] 44)) := (Below.refl _ _).alloc (Nat.le_refl _) _
  have HX3 := hide (Ac4.new w2 44 0 0 0 0)
  have HM3 := hide ((unhide HM2).keep hBa)
  have BL3 := BL2.trans (hBa.mono hz2)
  have hz3 := BL3.size
  clear hBa HM2 BL2
  go_wp2_with fail
  refine (next_over _ _ a 0 _ (unhide HM3) rfl (by omega) (by decide)).mono ?_
  rintro en w4 ⟨rfl, h4⟩
  have HX4 := hide ((unhide HX3).keep h4)
  have HM4 := hide ((unhide HM3).keep h4)
  have BL4 := BL3.trans (h4.mono hz3)
  have hz4 := BL4.size
  clear h4 HX3 HM3 BL3
  have hBa : Below w4.heap.size w4 (w4.alloc (.cells #[.int .i64 0, .int .i64 0, .int .u64 0, .int .u64 0] 44)) := (Below.refl _ _).alloc (Nat.le_refl _) _
  have HY5 := hide (Ac4.new w4 44 0 0 0 0)
  have HX5 := hide ((unhide HX4).keep hBa)
  have HM5 := hide ((unhide HM4).keep hBa)
  have BL5 := BL4.trans (hBa.mono hz4)
  have hz5 := BL5.size
  clear hBa HX4 HM4 BL4
  go_wp2_with fail
  refine (out_nil _).mono ?_
  rintro en w6 ⟨rfl, h6⟩
  have HX6 := hide ((unhide HX5).keep h6)
  have HY6 := hide ((unhide HY5).keep h6)
  have HM6 := hide ((unhide HM5).keep h6)
  have BL6 := BL5.trans (h6.mono hz5)
  have hz6 := BL6.size
  clear h6 HX5 HY5 HM5 BL5
  have hBa : Below w6.heap.size w6 (w6.alloc (.cells #[.int .i64 0, .int .i64 0, .int .i64 0] 38)) := (Below.refl _ _).alloc (Nat.le_refl _) _
  have HO7 := hide (Cl3.new w6 38 0 0 0)
  have HX7 := hide ((unhide HX6).keep hBa)
  have HY7 := hide ((unhide HY6).keep hBa)
  have HM7 := hide ((unhide HM6).keep hBa)
  have BL7 := BL6.trans (hBa.mono hz6)
  have hz7 := BL7.size
  clear hBa HX6 HY6 HM6 BL6
  go_wp2_with fail
  refine (out_not _ _ 0 _ (unhide HM7) rfl (by omega)).mono ?_
  rintro en w8 ⟨rfl, h8⟩
  obtain ⟨hb1, x0, x1, x2, x3⟩ := (unhide HX7).keep h8
  obtain ⟨hb2, y0, y1, y2, y3⟩ := (unhide HY7).keep h8
  obtain ⟨hb3, o0, o1, o2⟩ := (unhide HO7).keep h8
  have BL8 := BL7.trans (h8.mono hz7)
  have hz8 := BL8.size
  clear h8 HX7 HY7 HO7 HM7 BL7
  go_wp2_with fail
  refine (copyM_nil _).mono ?_
  rintro en w9 ⟨rfl, h9⟩
  have BL9 : Below w.heap.size w w9 := by
    refine Below.trans ?_ (h9.mono (by simp; omega))
    repeat (first | (with_reducible exact Below.refl _ _) | (with_reducible assumption) | (with_reducible refine Below.setCell ?_ (by first | (simp; done) | (simp; omega) | omega) _) | (with_reducible refine Below.alloc ?_ (by first | (simp; done) | (simp; omega) | omega) _) | (with_reducible refine Below.drew ?_))
  go_wp2_with fail
  refine (works14_any _).mono ?_
  rintro en w10 ⟨rfl, h10⟩
  have BL10 := BL9.trans (h10.mono BL9.size)
  go_wp2
  go_ret
  exact ⟨rfl, BL10⟩
end Go.Proofs.Ytnnllhlcpmmcaaa
