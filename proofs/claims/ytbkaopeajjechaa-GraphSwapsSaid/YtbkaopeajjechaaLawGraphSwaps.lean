/- The statement of GraphSwaps: whatever the input, the call returns true, and each argument reads afterwards as it read before. -/
import Derived.Test.YtbkaopeajjechaaRows
import Derived.Test.YtbkaopeajjechaaLawGraphSwapsW
import Derived.Test.YtbkaopeajjechaaOp
import Derived.ProofKit
import Derived.OpenShut
namespace Go.Proofs.Ytbkaopeajjechaa
set_option linter.unusedVariables false
set_option linter.unusedSimpArgs false
open Go.ChangeShapes Go.WideShapes Go.ChangeAt Go.RowKit

theorem graphSwaps_own : ownKnob Try.prog.godebug = none := by kernel_rfl
theorem graphSwaps_laidOut : laidOutB Try.prog = true := by kernel_rfl

set_option maxRecDepth 100000 in
set_option maxHeartbeats 1000000 in
theorem graphSwaps_lifted (os : Os) (started : os.Started) (H : Type) (enc : TypeId × Value → H) :
    ReturnsInHanded {} Try.checked os 9 .any (Rows.graphSwapsSpec.pre6 enc Try.prog Try.f9 Rows.graphSwapsRow.domain false) (Rows.graphSwapsSpec.post enc Try.prog Try.f9 false true false false) := by
  refine returnsInHanded_of_change (C := Try.checked) graphSwaps_own started (by kernel_rfl) Try.func9
    (ChangeSpec.witness6 (enc := enc) (C := Try.checked) false ⟨#[], #[.agg #[.int .i64 0, .int .i64 0, .slice none 0 0], .slice none 0 0, .agg #[.int .i64 0, .int .i64 0, .int .i64 0, .int .i64 0, .int .i64 0, .int .i64 0, .int .i64 0, .int .i64 0, .int .i64 0], .agg #[.int .i64 0, .int .i64 0, .int .i64 0, .int .i64 0, .int .i64 0, .int .i64 0, .int .i64 0, .int .i64 0, .int .i64 0]], []⟩ 8 (by kernel_rfl) (by kernel_rfl) (by kernel_rfl) (by kernel_rfl)) ?_
  intro W base args ds gs before hval0 hW hcnd _
  have hval : ∀ (j : Nat) t v, Try.f9.params[j]? = some t → args[j]? = some v → Value.okWide Try.prog W .any base t v := hval0
  have hW' := hW
  obtain ⟨p, q, hA0, hV, rfl, hfz, hnd⟩ := hW
  have hA : DataW.TrodAll enc Try.prog W 0 (fun _ => true) true Try.f9.params.toList args.toList ds p := hA0
  have hall : (Try.f9.params.toList.all fun t => Try.prog.readableRec t && decide (t < Try.prog.types.size)) = true := by kernel_rfl
  have hAk := hA
  rw [Try.params9] at hA hval
  obtain ⟨v0, vs0, d0, ds0, p0, q0, hargs, rfl, rfl, h0, r0⟩ := trodAll_cons hA
  obtain ⟨v1, vs1, d1, ds1, p1, q1, rfl, rfl, rfl, h1, r1⟩ := trodAll_cons r0
  obtain ⟨v2, vs2, d2, ds2, p2, q2, rfl, rfl, rfl, h2, r2⟩ := trodAll_cons r1
  obtain ⟨v3, vs3, d3, ds3, p3, q3, rfl, rfl, rfl, h3, r3⟩ := trodAll_cons r2
  obtain ⟨rfl, rfl, rfl⟩ := trodAll_nil r3
  obtain rfl : args = #[v0, v1, v2, v3] := by cases args; simp_all
  obtain ⟨rfl, rfl⟩ := trodVars_none hV
  have C0 := cells_arg 6 [.int .i64, .int .i64, .row [.str]] (by kernel_rfl) h0
  obtain ⟨cs0, rfl, _⟩ := okWide_struct Try.underlying24 (hval 0 24 v0 rfl rfl)
  obtain ⟨l0⟩ := cs0
  obtain ⟨c0_0, c0_1, c0_2, rfl⟩ := len3 (l := l0) C0.1
  obtain ⟨a0_0, rfl, w0_0⟩ := C0.2 0 _ _ rfl rfl
  obtain ⟨a0_1, rfl, w0_1⟩ := C0.2 1 _ _ rfl rfl
  obtain ⟨A0_2, len0_2, cap0_2, rfl, w0_2⟩ := C0.2 2 _ _ rfl rfl
  have C1 := cells_arg 6 [.row [.int .i64, .int .i64, .int .i64, .int .i64, .int .i64, .int .i64, .int .i64, .int .i64, .int .i64]] (by kernel_rfl) h1
  obtain ⟨A1, len1, cap1, rfl⟩ := okWide_slice Try.underlying25 (hval 1 25 v1 rfl rfl)
  obtain ⟨x1, e1, A1a, len1a, cap1a, rfl, w1⟩ := C1.at_ 0 _ rfl
  obtain ⟨rfl, rfl, rfl⟩ : A1 = A1a ∧ len1 = len1a ∧ cap1 = cap1a := by simpa [Value.cells] using e1
  have C2 := cells_arg 6 [.int .i64, .int .i64, .int .i64, .int .i64, .int .i64, .int .i64, .int .i64, .int .i64, .int .i64] (by kernel_rfl) h2
  obtain ⟨cs2, rfl, _⟩ := okWide_struct Try.underlying30 (hval 2 30 v2 rfl rfl)
  obtain ⟨l2⟩ := cs2
  obtain ⟨c2_0, c2_1, c2_2, c2_3, c2_4, c2_5, c2_6, c2_7, c2_8, rfl⟩ := len9 (l := l2) C2.1
  obtain ⟨a2_0, rfl, w2_0⟩ := C2.2 0 _ _ rfl rfl
  obtain ⟨a2_1, rfl, w2_1⟩ := C2.2 1 _ _ rfl rfl
  obtain ⟨a2_2, rfl, w2_2⟩ := C2.2 2 _ _ rfl rfl
  obtain ⟨a2_3, rfl, w2_3⟩ := C2.2 3 _ _ rfl rfl
  obtain ⟨a2_4, rfl, w2_4⟩ := C2.2 4 _ _ rfl rfl
  obtain ⟨a2_5, rfl, w2_5⟩ := C2.2 5 _ _ rfl rfl
  obtain ⟨a2_6, rfl, w2_6⟩ := C2.2 6 _ _ rfl rfl
  obtain ⟨a2_7, rfl, w2_7⟩ := C2.2 7 _ _ rfl rfl
  obtain ⟨a2_8, rfl, w2_8⟩ := C2.2 8 _ _ rfl rfl
  have C3 := cells_arg 6 [.int .i64, .int .i64, .int .i64, .int .i64, .int .i64, .int .i64, .int .i64, .int .i64, .int .i64] (by kernel_rfl) h3
  obtain ⟨cs3, rfl, _⟩ := okWide_struct Try.underlying30 (hval 3 30 v3 rfl rfl)
  obtain ⟨l3⟩ := cs3
  obtain ⟨c3_0, c3_1, c3_2, c3_3, c3_4, c3_5, c3_6, c3_7, c3_8, rfl⟩ := len9 (l := l3) C3.1
  obtain ⟨a3_0, rfl, w3_0⟩ := C3.2 0 _ _ rfl rfl
  obtain ⟨a3_1, rfl, w3_1⟩ := C3.2 1 _ _ rfl rfl
  obtain ⟨a3_2, rfl, w3_2⟩ := C3.2 2 _ _ rfl rfl
  obtain ⟨a3_3, rfl, w3_3⟩ := C3.2 3 _ _ rfl rfl
  obtain ⟨a3_4, rfl, w3_4⟩ := C3.2 4 _ _ rfl rfl
  obtain ⟨a3_5, rfl, w3_5⟩ := C3.2 5 _ _ rfl rfl
  obtain ⟨a3_6, rfl, w3_6⟩ := C3.2 6 _ _ rfl rfl
  obtain ⟨a3_7, rfl, w3_7⟩ := C3.2 7 _ _ rfl rfl
  obtain ⟨a3_8, rfl, w3_8⟩ := C3.2 8 _ _ rfl rfl
  clear hA0 hval0
  simp only [List.append_nil] at hW' hAk
  have hlt := fun x hx => hW'.lt x hx
  refine (graphSwaps_walk a0_0 w0_0 a0_1 w0_1 A0_2 len0_2 cap0_2 A1 len1 cap1 a2_0 w2_0 a2_1 w2_1 a2_2 w2_2 a2_3 w2_3 a2_4 w2_4 a2_5 w2_5 a2_6 w2_6 a2_7 w2_7 a2_8 w2_8 a3_0 w3_0 a3_1 w3_1 a3_2 w3_2 a3_3 w3_3 a3_4 w3_4 a3_5 w3_5 a3_6 w3_6 a3_7 w3_7 a3_8 w3_8 W w0_2 w1).mono fun e W' ⟨he, hb⟩ => ?_
  subst he
  exact ⟨_, rfl, _, _, _, [], _, [], hW', trodAll_mk1 (shut_bool Try.underlying4 _), below_trodAll graphSwaps_laidOut hb hall hAk hlt, rfl, hb.frame _, fun h => by cases h⟩

/-- GraphSwaps: for every input the law returns true, and its arguments read as they read before. -/
theorem graphSwaps_proved : Rows.GraphSwapsSaid :=
  OpenClaim.holds_of_wide 9 Try.f9 rfl rfl rfl rfl rfl rfl rfl ⟨rfl, rfl, rfl, rfl, rfl⟩ rfl rfl rfl rfl rfl (by kernel_rfl) Try.func9 (by kernel_rfl)
    (of_decide_eq_true (by kernel_rfl)) (by unfold Func.isWrapper; first | (rw [if_pos (by decide +kernel)]; kernel_rfl) | (rw [if_neg (by decide +kernel)]; exact ⟨rfl, rfl⟩))
    (fun os started H enc _ => graphSwaps_lifted os started H enc)
#print axioms graphSwaps_proved
end Go.Proofs.Ytbkaopeajjechaa
