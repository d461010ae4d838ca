/- A function value compared with nil. No program in sight. -/
import Derived.Test.YtbkaopeajjechaaLk
namespace Go.Proofs.Ytbkaopeajjechaa
set_option linter.unusedVariables false
set_option linter.unusedSimpArgs false
open Go.RowKit

theorem run_equalIn_func_nil {P : Program} (w : World) (d : Nat) {t : TypeId} (f : Fn) (c a : Array Value) (h : (match P.underlying t with | some (.func ..) => true | _ => false) = true) :
    (Op.equalIn (d + 1) t (.func f c a) .nilFunc).run P w = .ok false w := by
  cases hu : P.underlying t with
  | none => rw [hu] at h; cases h
  | some i =>
    rw [hu] at h
    cases i <;> first | (cases h; done) | skip
    simp [Op.equalIn, run_underlying hu]

theorem run_eql_func_nil {P : Program} (w : World) {t : TypeId} (f : Fn) (c a : Array Value) (h : (match P.underlying t with | some (.func ..) => true | _ => false) = true) :
    (binOp .eql t (.func f c a) .nilFunc).run P w = .ok (.bool false) w := by
  have he : (Op.equal t (.func f c a) .nilFunc).run P w = .ok false w := run_equalIn_func_nil w 9999 f c a h
  simp only [binOp]
  simp [he]

theorem run_equalIn_nil_nil {P : Program} (w : World) (d : Nat) {t : TypeId} (h : (match P.underlying t with | some (.func ..) => true | _ => false) = true) :
    (Op.equalIn (d + 1) t .nilFunc .nilFunc).run P w = .ok true w := by
  cases hu : P.underlying t with
  | none => rw [hu] at h; cases h
  | some i =>
    rw [hu] at h
    cases i <;> first | (cases h; done) | skip
    simp [Op.equalIn, run_underlying hu]

theorem run_eql_nil_nil {P : Program} (w : World) {t : TypeId} (h : (match P.underlying t with | some (.func ..) => true | _ => false) = true) :
    (binOp .eql t .nilFunc .nilFunc).run P w = .ok (.bool true) w := by
  have he : (Op.equal t .nilFunc .nilFunc).run P w = .ok true w := run_equalIn_nil_nil w 9999 h
  simp only [binOp]
  simp [he]
end Go.Proofs.Ytbkaopeajjechaa
