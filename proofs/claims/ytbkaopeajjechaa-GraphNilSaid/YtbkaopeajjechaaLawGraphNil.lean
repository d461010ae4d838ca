/- The statement of GraphNil: whatever the input, the call returns true, and each argument reads afterwards as it read before. -/
import Derived.Test.YtbkaopeajjechaaRows
import Derived.Test.YtbkaopeajjechaaLawGraphNilW
import Derived.Test.YtbkaopeajjechaaOp
import Derived.ProofKit
import Derived.OpenShut
namespace Go.Proofs.Ytbkaopeajjechaa
set_option linter.unusedVariables false
set_option linter.unusedSimpArgs false
open Go.ChangeShapes Go.WideShapes Go.ChangeAt Go.RowKit

theorem graphNil_own : ownKnob Try.prog.godebug = none := by kernel_rfl
theorem graphNil_laidOut : laidOutB Try.prog = true := by kernel_rfl

set_option maxRecDepth 100000 in
set_option maxHeartbeats 1000000 in
theorem graphNil_lifted (os : Os) (started : os.Started) (H : Type) (enc : TypeId × Value → H) :
    ReturnsInHanded {} Try.checked os 8 .any (Rows.graphNilSpec.pre6 enc Try.prog Try.f8 Rows.graphNilRow.domain false) (Rows.graphNilSpec.post enc Try.prog Try.f8 false true false false) := by
  refine returnsInHanded_of_change (C := Try.checked) graphNil_own started (by kernel_rfl) Try.func8
    (ChangeSpec.witness6 (enc := enc) (C := Try.checked) false ⟨#[], #[.agg #[.int .i64 0, .int .i64 0, .int .i64 0, .int .i64 0, .int .i64 0, .int .i64 0, .int .i64 0, .int .i64 0, .int .i64 0]], []⟩ 8 (by kernel_rfl) (by kernel_rfl) (by kernel_rfl) (by kernel_rfl)) ?_
  intro W base args ds gs before hval0 hW hcnd _
  have hval : ∀ (j : Nat) t v, Try.f8.params[j]? = some t → args[j]? = some v → Value.okWide Try.prog W .any base t v := hval0
  have hW' := hW
  obtain ⟨p, q, hA0, hV, rfl, hfz, hnd⟩ := hW
  have hA : DataW.TrodAll enc Try.prog W 0 (fun _ => true) true Try.f8.params.toList args.toList ds p := hA0
  have hall : (Try.f8.params.toList.all fun t => Try.prog.readableRec t && decide (t < Try.prog.types.size)) = true := by kernel_rfl
  have hAk := hA
  rw [Try.params8] at hA hval
  obtain ⟨v0, vs0, d0, ds0, p0, q0, hargs, rfl, rfl, h0, r0⟩ := trodAll_cons hA
  obtain ⟨rfl, rfl, rfl⟩ := trodAll_nil r0
  obtain rfl : args = #[v0] := by cases args; simp_all
  obtain ⟨rfl, rfl⟩ := trodVars_none hV
  have C0 := cells_arg 6 [.int .i64, .int .i64, .int .i64, .int .i64, .int .i64, .int .i64, .int .i64, .int .i64, .int .i64] (by kernel_rfl) h0
  obtain ⟨cs0, rfl, _⟩ := okWide_struct Try.underlying30 (hval 0 30 v0 rfl rfl)
  obtain ⟨l0⟩ := cs0
  obtain ⟨c0_0, c0_1, c0_2, c0_3, c0_4, c0_5, c0_6, c0_7, c0_8, rfl⟩ := len9 (l := l0) C0.1
  obtain ⟨a0_0, rfl, w0_0⟩ := C0.2 0 _ _ rfl rfl
  obtain ⟨a0_1, rfl, w0_1⟩ := C0.2 1 _ _ rfl rfl
  obtain ⟨a0_2, rfl, w0_2⟩ := C0.2 2 _ _ rfl rfl
  obtain ⟨a0_3, rfl, w0_3⟩ := C0.2 3 _ _ rfl rfl
  obtain ⟨a0_4, rfl, w0_4⟩ := C0.2 4 _ _ rfl rfl
  obtain ⟨a0_5, rfl, w0_5⟩ := C0.2 5 _ _ rfl rfl
  obtain ⟨a0_6, rfl, w0_6⟩ := C0.2 6 _ _ rfl rfl
  obtain ⟨a0_7, rfl, w0_7⟩ := C0.2 7 _ _ rfl rfl
  obtain ⟨a0_8, rfl, w0_8⟩ := C0.2 8 _ _ rfl rfl
  clear hA0 hval0
  simp only [List.append_nil] at hW' hAk
  have hlt := fun x hx => hW'.lt x hx
  refine (graphNil_walk a0_0 w0_0 a0_1 w0_1 a0_2 w0_2 a0_3 w0_3 a0_4 w0_4 a0_5 w0_5 a0_6 w0_6 a0_7 w0_7 a0_8 w0_8 W ).mono fun e W' ⟨he, hb⟩ => ?_
  subst he
  exact ⟨_, rfl, _, _, _, [], _, [], hW', trodAll_mk1 (shut_bool Try.underlying4 _), below_trodAll graphNil_laidOut hb hall hAk hlt, rfl, hb.frame _, fun h => by cases h⟩

/-- GraphNil: for every input the law returns true, and its arguments read as they read before. -/
theorem graphNil_proved : Rows.GraphNilSaid :=
  OpenClaim.holds_of_wide 8 Try.f8 rfl rfl rfl rfl rfl rfl rfl ⟨rfl, rfl, rfl, rfl, rfl⟩ rfl rfl rfl rfl rfl (by kernel_rfl) Try.func8 (by kernel_rfl)
    (of_decide_eq_true (by kernel_rfl)) (by unfold Func.isWrapper; first | (rw [if_pos (by decide +kernel)]; kernel_rfl) | (rw [if_neg (by decide +kernel)]; exact ⟨rfl, rfl⟩))
    (fun os started H enc _ => graphNil_lifted os started H enc)
#print axioms graphNil_proved
end Go.Proofs.Ytbkaopeajjechaa
