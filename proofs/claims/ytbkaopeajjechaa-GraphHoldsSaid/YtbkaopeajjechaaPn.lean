/- Maps whose keys are pointers: nil looked up. No program in sight. -/
import Derived.Test.YtbkaopeajjechaaPm
namespace Go.Proofs.Ytbkaopeajjechaa
set_option linter.unusedVariables false
set_option linter.unusedSimpArgs false
open Go.RowKit

section
variable {P : Program} {w : World} {tp te : TypeId} {j : TypeInfo}

theorem run_equal_nilp (hp : P.underlying tp = some (.pointer te)) {b : Nat} : (Op.equal tp (.pointer none) (pt b)).run P w = .ok false w := by
  have h : ∀ d : Nat, (Op.equalIn (d + 1) tp (.pointer none) (pt b)).run P w = .ok false w := fun d => by
    simp [Op.equalIn, run_underlying hp]
  simp [Op.equal, Op.maxDepth, h 9999]

theorem run_findAsking_nilp (hp : P.underlying tp = some (.pointer te)) : ∀ (L : List (Nat × Value)) (i : Nat), (Instr.findAsking tp (.pointer none) (entriesFrom L i) i).run P w = .ok none w
  | [], i => rfl
  | x :: r, i => by
    have he := run_equal_nilp (w := w) hp (b := x.1)
    have hr := run_findAsking_nilp hp r (i + 1)
    unfold entriesFrom Instr.findAsking entryAt
    simp only [Sem.run_bind, he, Result.andThen_ok]
    simp [hr]

theorem run_findKey_nilp (hp : P.underlying tp = some (.pointer te)) (L : List (Nat × Value)) : (Instr.findKey tp (.pointer none) (entriesFrom L 0)).run P w = .ok none w := by
  unfold Instr.findKey
  simp only [Sem.run_bind, run_underlying hp, Result.andThen_ok]
  cases L with
  | nil => rfl
  | cons x r =>
    have h : Instr.findNow (.pointer te) (.pointer none) (entriesFrom (x :: r) 0) 0 = none := by
      unfold entriesFrom Instr.findNow entryAt
      rfl
    rw [h]
    exact run_findAsking_nilp hp (x :: r) 0

theorem run_checkKey_nilp (hp : P.underlying tp = some (.pointer te)) (em : Bool) : (Instr.checkKey em 10000 tp (.pointer none)).run P w = .ok () w := by
  have h : ∀ n : Nat, (Instr.checkKey em (n + 1) tp (.pointer none)).run P w = .ok () w := fun n => by simp [Instr.checkKey, run_underlying hp]
  exact h 9999

theorem run_lookup_nilp {tm tv : TypeId} {b : Nat} {L : List (Nat × Value)} {z : Value} (hm : P.underlying tm = some (.map tp tv)) (hp : P.underlying tp = some (.pointer te)) (h : PMap w b L) (hz : (zeroValue tv).run P w = .ok z w) :
    (Instr.lookup tm (.map (some b)) (.pointer none) false).run P w = .ok z w := by
  have h1 := run_findKey_nilp (w := w) hp L
  have h2 := fun em => run_checkKey_nilp (w := w) hp em
  simp [Instr.lookup, run_underlying hm, MapKept.run_getObj_map h.1, h2, h1, hz]
end
end Go.Proofs.Ytbkaopeajjechaa
