/- The walks of package arena: two lists of words compared; where they are unlike. -/
import Derived.Test.YtnnllhlcpmmcaaaProg
import Derived.Test.YtnnllhlcpmmcaaaLk
import Derived.Test.YtnnllhlcpmmcaaaRw
import Derived.Deep.QuietTactic
import Derived.BigQuiet
namespace Go.Proofs.Ytnnllhlcpmmcaaa
set_option linter.unusedVariables false
set_option linter.unusedSimpArgs false
open Go.RowKit

/-- Are the first n words the same? -/
def eqTo (xs ys : Nat → Int) : Nat → Bool
  | 0 => true
  | n + 1 => eqTo xs ys n && (xs n == ys n)

theorem eqTo_iff {xs ys : Nat → Int} : ∀ {n : Nat}, eqTo xs ys n = true ↔ ∀ i, i < n → xs i = ys i
  | 0 => by simp [eqTo]
  | n + 1 => by
    rw [eqTo, Bool.and_eq_true, eqTo_iff, beq_iff_eq]
    constructor
    · rintro ⟨h1, h2⟩ i hi
      by_cases e : i = n
      · rw [e]; exact h2
      · exact h1 i (by omega)
    · intro h
      exact ⟨fun i hi => h i (by omega), h n (by omega)⟩

theorem eqTo_no {xs ys : Nat → Int} {n k : Nat} (hk : k < n) (h : xs k ≠ ys k) : eqTo xs ys n = false := by
  cases e : eqTo xs ys n with
  | false => rfl
  | true => exact absurd (eqTo_iff.1 e k hk) h

/-- The places at which the first n words are unlike. -/
def unl (xs ys : Nat → Int) : Nat → List Int
  | 0 => []
  | n + 1 => if xs n = ys n then unl xs ys n else unl xs ys n ++ [(n : Int)]

theorem unl_len (xs ys : Nat → Int) : ∀ n, (unl xs ys n).length ≤ n
  | 0 => Nat.le_refl _
  | n + 1 => by
    have := unl_len xs ys n
    unfold unl
    split <;> simp <;> omega

set_option maxHeartbeats 2000000 in
theorem equal_any (b1 o1 c1 b2 o2 c2 n : Nat) (xs ys : Nat → Int) (hn : n ≤ 16384) (w : World) (H1 : ∀ i, i < n → w.cell? ⟨b1, o1 + i, none⟩ = some (.int .u64 (xs i))) (H2 : ∀ i, i < n → w.cell? ⟨b2, o2 + i, none⟩ = some (.int .u64 (ys i))) :
    Calls Try.prog 54 #[.slice (some ⟨b1, o1, none⟩) n c1, .slice (some ⟨b2, o2, none⟩) n c2] w fun e w' => e = .returned (.bool (eqTo xs ys n)) ∧ Below w.heap.size w w' := by
  have HH1 := hide H1
  have HH2 := hide H2
  clear H1 H2
  go_enter Try.func54, Try.ntmps54
  go_wp2
  go_loopw [13] (fun i wr => ∃ k : Nat, k ≤ n ∧ i = .int .i64 k ∧ Hid (eqTo xs ys k = true) ∧ ∃ m, wr = w.drewN m) (fun i _ => n - (intOf i).toNat)
  case atStart => exact ⟨0, Nat.zero_le _, rfl, hide rfl, 0, rfl⟩
  case round =>
    obtain ⟨k, hk, rfl, HE, m, rfl⟩ := hrel
    by_cases hlt : k < n
    · have c1 := unhide HH1 k hlt
      have c2 := unhide HH2 k hlt
      have b0 : (0 : Int) ≤ (k : Int) := by omega
      have b1 : (k : Int) < (n : Int) := by omega
      by_cases hx : xs k = ys k
      · have hne : (xs k != ys k) = false := by simp [hx]
        go_wp2
        go_quiet (fail)
        all_goals go_wp2
        all_goals go_roundw
        all_goals first | (case measure => simp [intOf]; omega) | skip
        all_goals exact ⟨k + 1, by omega, by go_num, hide (by rw [eqTo, unhide HE, hx]; simp), _, rfl⟩
      · have hne : (xs k != ys k) = true := by simp [hx]
        go_wp2
        go_quiet (fail)
        all_goals go_wp2
        all_goals go_ret
        all_goals exact ⟨ret_bool (eqTo_no hlt hx).symm, below_drewN (below_drewN (Below.refl _ _) _) _⟩
    · obtain rfl : k = n := by omega
      go_wp2
      go_ret
      exact ⟨ret_bool (unhide HE).symm, below_drewN (Below.refl _ _) _⟩

theorem info_int5 : (Try.prog.info? 3).map (fun i => (i.zero, i.size, i.bytes)) = some (some (.int .i64 0), 1, 8) := by kernel_rfl

theorem none_q (g b o n c : Nat) (w : World) (h1 : w.cell? ⟨g, 0, none⟩ = some (.slice (some ⟨b, o, none⟩) n c)) (hn1 : 1 ≤ n) :
    Calls Try.prog 49 #[.pointer (some ⟨g, 0, none⟩)] w fun e w' => e = .returned (.bool false) ∧ w' = w := by
  have hn : ((n : Int) == 0) = false := by simp; omega
  go_enter Try.func49, Try.ntmps49
  go_wp2
  go_ret
  exact ⟨rfl, rfl⟩

set_option maxHeartbeats 2000000 in
theorem equal_no (A1 A2 : Option Addr) (c1 c2 n m : Nat) (hn : n ≤ 16384) (hm : m ≤ 16384) (hne : n ≠ m) (w : World) :
    Calls Try.prog 54 #[.slice A1 n c1, .slice A2 m c2] w fun e w' => e = .returned (.bool false) ∧ Below w.heap.size w w' := by
  have h1 : ((n : Int) != (m : Int)) = true := by simp; omega
  go_enter Try.func54, Try.ntmps54
  go_wp2
  go_ret
  exact ⟨rfl, Below.refl _ _⟩
end Go.Proofs.Ytnnllhlcpmmcaaa
