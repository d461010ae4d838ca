/- Package buffer: Take and Give beside their references; whether there are few shapes. -/
import Derived.Test.YtkmoefijncjlhaaByH
namespace Go.Proofs.Ytkmoefijncjlhaa
set_option linter.unusedVariables false
set_option linter.unusedSimpArgs false
open Go.RowKit


theorem take_both (t sp : Int) (A : Option Addr) (len cap : Nat) (S : Nat → ByteArray) (hlen : len ≤ 1000) (hS : ∀ i, i < len → (S i).size ≤ 100) (s a l n : Int) (ha : a ≤ 9223372036854775807) (w : World) (H : ShOk w A len S) :
    ∃ vs va vl vp ve : Int, (∀ W, Below w.heap.size w W → Calls Try.prog 15 #[.agg #[.int .i64 t, .int .i64 sp, .slice A len cap], .agg #[.int .i64 s, .int .i64 a, .int .i64 l], .int .i64 n] W fun e w' => e = .returned (.tuple #[.agg #[.int .i64 vs, .int .i64 va, .int .i64 vl], .int .i64 vp, .int .i64 ve]) ∧ Below W.heap.size W w') ∧
      (∀ W, Below w.heap.size w W → Calls Try.prog 16 #[.agg #[.int .i64 t, .int .i64 sp, .slice A len cap], .agg #[.int .i64 s, .int .i64 a, .int .i64 l], .int .i64 n] W fun e w' => e = .returned (.tuple #[.agg #[.int .i64 vs, .int .i64 va, .int .i64 vl], .int .i64 vp, .int .i64 ve]) ∧ Below W.heap.size W w') := by
  cases hb : (rgtB t sp len S s a l && decide (1 ≤ n)) with
  | false => exact ⟨0, 0, 0, 0, 2, fun W hW => take_bad t sp A len cap S hlen hS s a l n ha hb W (H.keep hW), fun W hW => refTake_bad t sp A len cap S hlen hS s a l n hb W (H.keep hW)⟩
  | true =>
    simp only [Bool.and_eq_true, decide_eq_true_eq] at hb
    by_cases h : n ≤ l
    · exact ⟨_, _, _, _, _, fun W hW => take_ok t sp A len cap S hlen hS s a l n ha hb.1 hb.2 h W (H.keep hW), fun W hW => refTake_ok t sp A len cap S hlen hS s a l n hb.1 hb.2 h W (H.keep hW)⟩
    · exact ⟨_, _, _, _, _, fun W hW => take_less t sp A len cap S hlen hS s a l n ha hb.1 hb.2 (by omega) W (H.keep hW), fun W hW => refTake_less t sp A len cap S hlen hS s a l n hb.1 hb.2 (by omega) W (H.keep hW)⟩

theorem give_both (t sp : Int) (A : Option Addr) (len cap : Nat) (S : Nat → ByteArray) (hlen : len ≤ 1000) (hS : ∀ i, i < len → (S i).size ≤ 100) (s a l e ca cg n : Int) (ha : a ≤ 9223372036854775807) (hca : ca ≤ 9223372036854775807) (w : World) (H : ShOk w A len S) :
    ∃ vs va vl ve : Int, (∀ W, Below w.heap.size w W → Calls Try.prog 19 #[.agg #[.int .i64 t, .int .i64 sp, .slice A len cap], .agg #[.int .i64 s, .int .i64 a, .int .i64 l], .agg #[.int .i64 e, .int .i64 ca, .int .i64 cg], .int .i64 n] W fun ed w' => ed = .returned (.tuple #[.agg #[.int .i64 vs, .int .i64 va, .int .i64 vl], .int .i64 ve]) ∧ Below W.heap.size W w') ∧
      (∀ W, Below w.heap.size w W → Calls Try.prog 20 #[.agg #[.int .i64 t, .int .i64 sp, .slice A len cap], .agg #[.int .i64 s, .int .i64 a, .int .i64 l], .agg #[.int .i64 e, .int .i64 ca, .int .i64 cg], .int .i64 n] W fun ed w' => ed = .returned (.tuple #[.agg #[.int .i64 vs, .int .i64 va, .int .i64 vl], .int .i64 ve]) ∧ Below W.heap.size W w') := by
  by_cases hb : rgt t sp len S s a l ∧ (1 ≤ n ∧ e = 0 ∧ n ≤ cg) ∧ wit t sp len S s ca cg ∧ (cg = n ∨ l = 0)
  · have hg := gv_iff.2 hb
    obtain ⟨h1, ⟨h2, rfl, h3⟩, h4, h5⟩ := hb
    have hbs := bas_le h1.1.1 h1.1.2.1 h1.2.1
    have hsp := h1.1.2.1
    have q := h4
    obtain ⟨_, _, q1, q2, q3, q4⟩ := q
    by_cases hc : cg = n
    · exact ⟨s, a, l, 0, fun W hW => give_any t sp A len cap S hlen hS s a l 0 ca cg n ha hca W (H.keep hW) true (hide hg) _ _ _ _ (.inr (.inl ⟨rfl, hc, rfl, rfl, rfl, rfl⟩)), fun W hW => refGive_ok t sp A len cap S hlen hS s a l ca cg n ⟨h1, ⟨h2, h3⟩, h4, h5⟩ W (H.keep hW) _ _ _ (.inl ⟨hc, rfl, rfl, rfl⟩)⟩
    · exact ⟨s, _, cg - n, 0, fun W hW => give_any t sp A len cap S hlen hS s a l 0 ca cg n ha hca W (H.keep hW) true (hide hg) _ _ _ _ (.inr (.inr ⟨rfl, hc, by omega, rfl, rfl, rfl, rfl⟩)), fun W hW => refGive_ok t sp A len cap S hlen hS s a l ca cg n ⟨h1, ⟨h2, h3⟩, h4, h5⟩ W (H.keep hW) _ _ _ (.inr ⟨hc, by omega, rfl, rfl, rfl⟩)⟩
  · exact ⟨0, 0, 0, 2, fun W hW => give_any t sp A len cap S hlen hS s a l e ca cg n ha hca W (H.keep hW) false (hide (by rw [Bool.eq_false_iff, Ne, gv_iff]; exact hb)) _ _ _ _ (.inl ⟨rfl, rfl, rfl, rfl, rfl⟩), fun W hW => refGive_bad t sp A len cap S hlen hS s a l e ca cg n hb W (H.keep hW)⟩
end Go.Proofs.Ytkmoefijncjlhaa
