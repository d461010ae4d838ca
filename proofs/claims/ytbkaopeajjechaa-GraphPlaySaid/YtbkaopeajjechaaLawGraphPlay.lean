/- The statement of GraphPlay: whatever the input, the call returns true, and each argument reads afterwards as it read before. -/
import Derived.Test.YtbkaopeajjechaaRows
import Derived.Test.YtbkaopeajjechaaLawGraphPlayW
import Derived.Test.YtbkaopeajjechaaOp
import Derived.ProofKit
import Derived.OpenShut
namespace Go.Proofs.Ytbkaopeajjechaa
set_option linter.unusedVariables false
set_option linter.unusedSimpArgs false
open Go.ChangeShapes Go.WideShapes Go.ChangeAt Go.RowKit

theorem graphPlay_own : ownKnob Try.prog.godebug = none := by kernel_rfl
theorem graphPlay_laidOut : laidOutB Try.prog = true := by kernel_rfl

set_option maxRecDepth 100000 in
set_option maxHeartbeats 1000000 in
theorem graphPlay_lifted (os : Os) (started : os.Started) (H : Type) (enc : TypeId × Value → H) :
    ReturnsInHanded {} Try.checked os 4 .any (Rows.graphPlaySpec.pre6 enc Try.prog Try.f4 Rows.graphPlayRow.domain false) (Rows.graphPlaySpec.post enc Try.prog Try.f4 false true false false) := by
  refine returnsInHanded_of_change (C := Try.checked) graphPlay_own started (by kernel_rfl) Try.func4
    (ChangeSpec.witness6 (enc := enc) (C := Try.checked) false ⟨#[], #[.agg #[.int .i64 0, .int .i64 0, .slice none 0 0], .slice none 0 0], []⟩ 8 (by kernel_rfl) (by kernel_rfl) (by kernel_rfl) (by kernel_rfl)) ?_
  intro W base args ds gs before hval0 hW hcnd _
  have hval : ∀ (j : Nat) t v, Try.f4.params[j]? = some t → args[j]? = some v → Value.okWide Try.prog W .any base t v := hval0
  have hW' := hW
  obtain ⟨p, q, hA0, hV, rfl, hfz, hnd⟩ := hW
  have hA : DataW.TrodAll enc Try.prog W 0 (fun _ => true) true Try.f4.params.toList args.toList ds p := hA0
  have hall : (Try.f4.params.toList.all fun t => Try.prog.readableRec t && decide (t < Try.prog.types.size)) = true := by kernel_rfl
  have hAk := hA
  rw [Try.params4] at hA hval
  obtain ⟨v0, vs0, d0, ds0, p0, q0, hargs, rfl, rfl, h0, r0⟩ := trodAll_cons hA
  obtain ⟨v1, vs1, d1, ds1, p1, q1, rfl, rfl, rfl, h1, r1⟩ := trodAll_cons r0
  obtain ⟨rfl, rfl, rfl⟩ := trodAll_nil r1
  obtain rfl : args = #[v0, v1] := by cases args; simp_all
  obtain ⟨rfl, rfl⟩ := trodVars_none hV
  have C0 := cells_arg 6 [.int .i64, .int .i64, .row [.str]] (by kernel_rfl) h0
  obtain ⟨cs0, rfl, _⟩ := okWide_struct Try.underlying24 (hval 0 24 v0 rfl rfl)
  obtain ⟨l0⟩ := cs0
  obtain ⟨c0_0, c0_1, c0_2, rfl⟩ := len3 (l := l0) C0.1
  obtain ⟨a0_0, rfl, w0_0⟩ := C0.2 0 _ _ rfl rfl
  obtain ⟨a0_1, rfl, w0_1⟩ := C0.2 1 _ _ rfl rfl
  obtain ⟨A0_2, len0_2, cap0_2, rfl, w0_2⟩ := C0.2 2 _ _ rfl rfl
  have C1 := cells_arg 6 [.row [.int .i64, .int .i64, .int .i64, .int .i64, .int .i64, .int .i64, .int .i64, .int .i64, .int .i64]] (by kernel_rfl) h1
  obtain ⟨A1, len1, cap1, rfl⟩ := okWide_slice Try.underlying25 (hval 1 25 v1 rfl rfl)
  obtain ⟨x1, e1, A1a, len1a, cap1a, rfl, w1⟩ := C1.at_ 0 _ rfl
  obtain ⟨rfl, rfl, rfl⟩ : A1 = A1a ∧ len1 = len1a ∧ cap1 = cap1a := by simpa [Value.cells] using e1
  clear hA0 hval0
  simp only [List.append_nil] at hW' hAk
  have hlt := fun x hx => hW'.lt x hx
  refine (graphPlay_walk a0_0 w0_0 a0_1 w0_1 A0_2 len0_2 cap0_2 A1 len1 cap1 W w0_2 w1).mono fun e W' ⟨he, hb⟩ => ?_
  subst he
  exact ⟨_, rfl, _, _, _, [], _, [], hW', trodAll_mk1 (shut_bool Try.underlying4 _), below_trodAll graphPlay_laidOut hb hall hAk hlt, rfl, hb.frame _, fun h => by cases h⟩

/-- GraphPlay: for every input the law returns true, and its arguments read as they read before. -/
theorem graphPlay_proved : Rows.GraphPlaySaid :=
  OpenClaim.holds_of_wide 4 Try.f4 rfl rfl rfl rfl rfl rfl rfl ⟨rfl, rfl, rfl, rfl, rfl⟩ rfl rfl rfl rfl rfl (by kernel_rfl) Try.func4 (by kernel_rfl)
    (of_decide_eq_true (by kernel_rfl)) (by unfold Func.isWrapper; first | (rw [if_pos (by decide +kernel)]; kernel_rfl) | (rw [if_neg (by decide +kernel)]; exact ⟨rfl, rfl⟩))
    (fun os started H enc _ => graphPlay_lifted os started H enc)
#print axioms graphPlay_proved
end Go.Proofs.Ytbkaopeajjechaa
