/- The walks of package arena: two lists of words compared; where they are unlike. -/
import Derived.Test.YtlhpphlfgjopbaaProg
import Derived.Test.YtlhpphlfgjopbaaLk
import Derived.Test.YtlhpphlfgjopbaaRw
import Derived.Deep.QuietTactic
import Derived.BigQuiet
namespace Go.Proofs.Ytlhpphlfgjopbaa
set_option linter.unusedVariables false
set_option linter.unusedSimpArgs false
open Go.RowKit

/-- Are the first n words the same? -/
def eqTo (xs ys : Nat → Int) : Nat → Bool
  | 0 => true
  | n + 1 => eqTo xs ys n && (xs n == ys n)

theorem eqTo_iff {xs ys : Nat → Int} : ∀ {n : Nat}, eqTo xs ys n = true ↔ ∀ i, i < n → xs i = ys i
  | 0 => by simp [eqTo]
  | n + 1 => by
    rw [eqTo, Bool.and_eq_true, eqTo_iff, beq_iff_eq]
    constructor
    · rintro ⟨h1, h2⟩ i hi
      by_cases e : i = n
      · rw [e]; exact h2
      · exact h1 i (by omega)
    · intro h
      exact ⟨fun i hi => h i (by omega), h n (by omega)⟩

theorem eqTo_no {xs ys : Nat → Int} {n k : Nat} (hk : k < n) (h : xs k ≠ ys k) : eqTo xs ys n = false := by
  cases e : eqTo xs ys n with
  | false => rfl
  | true => exact absurd (eqTo_iff.1 e k hk) h

/-- The places at which the first n words are unlike. -/
def unl (xs ys : Nat → Int) : Nat → List Int
  | 0 => []
  | n + 1 => if xs n = ys n then unl xs ys n else unl xs ys n ++ [(n : Int)]

theorem unl_len (xs ys : Nat → Int) : ∀ n, (unl xs ys n).length ≤ n
  | 0 => Nat.le_refl _
  | n + 1 => by
    have := unl_len xs ys n
    unfold unl
    split <;> simp <;> omega

set_option maxHeartbeats 2000000 in
theorem equal_any (b1 o1 c1 b2 o2 c2 n : Nat) (xs ys : Nat → Int) (hn : n ≤ 16384) (w : World) (H1 : ∀ i, i < n → w.cell? ⟨b1, o1 + i, none⟩ = some (.int .u64 (xs i))) (H2 : ∀ i, i < n → w.cell? ⟨b2, o2 + i, none⟩ = some (.int .u64 (ys i))) :
    Calls Try.prog 37 #[.slice (some ⟨b1, o1, none⟩) n c1, .slice (some ⟨b2, o2, none⟩) n c2] w fun e w' => e = .returned (.bool (eqTo xs ys n)) ∧ Below w.heap.size w w' := by
  have HH1 := hide H1
  have HH2 := hide H2
  clear H1 H2
  go_enter Try.func37, Try.ntmps37
  go_wp2
  go_loopw [13] (fun i wr => ∃ k : Nat, k ≤ n ∧ i = .int .i64 k ∧ Hid (eqTo xs ys k = true) ∧ ∃ m, wr = w.drewN m) (fun i _ => n - (intOf i).toNat)
  case atStart => exact ⟨0, Nat.zero_le _, rfl, hide rfl, 0, rfl⟩
  case round =>
    obtain ⟨k, hk, rfl, HE, m, rfl⟩ := hrel
    by_cases hlt : k < n
    · have c1 := unhide HH1 k hlt
      have c2 := unhide HH2 k hlt
      have b0 : (0 : Int) ≤ (k : Int) := by omega
      have b1 : (k : Int) < (n : Int) := by omega
      by_cases hx : xs k = ys k
      · have hne : (xs k != ys k) = false := by simp [hx]
        go_wp2
        go_quiet (fail)
        all_goals go_wp2
        all_goals go_roundw
        all_goals first | (case measure => simp [intOf]; omega) | skip
        all_goals exact ⟨k + 1, by omega, by go_num, hide (by rw [eqTo, unhide HE, hx]; simp), _, rfl⟩
      · have hne : (xs k != ys k) = true := by simp [hx]
        go_wp2
        go_quiet (fail)
        all_goals go_wp2
        all_goals go_ret
        all_goals exact ⟨ret_bool (eqTo_no hlt hx).symm, below_drewN (below_drewN (Below.refl _ _) _) _⟩
    · obtain rfl : k = n := by omega
      go_wp2
      go_ret
      exact ⟨ret_bool (unhide HE).symm, below_drewN (Below.refl _ _) _⟩

theorem info_int5 : (Try.prog.info? 3).map (fun i => (i.zero, i.size, i.bytes)) = some (some (.int .i64 0), 1, 8) := by kernel_rfl

set_option maxHeartbeats 2000000 in
theorem unl_any (b1 o1 c1 b2 o2 c2 n : Nat) (xs ys : Nat → Int) (hn : n ≤ 16384) (w : World) (hb1 : b1 < w.heap.size) (hb2 : b2 < w.heap.size) (H1 : ∀ i, i < n → w.cell? ⟨b1, o1 + i, none⟩ = some (.int .u64 (xs i))) (H2 : ∀ i, i < n → w.cell? ⟨b2, o2 + i, none⟩ = some (.int .u64 (ys i))) :
    Calls Try.prog 38 #[.slice (some ⟨b1, o1, none⟩) n c1, .slice (some ⟨b2, o2, none⟩) n c2] w fun e w' => ∃ v, e = .returned v ∧ w'.ownsRow w.heap.size 3 1 v (unl xs ys n).length ((unl xs ys n).map (.int .i64)) ∧ Below w.heap.size w w' := by
  have HH1 := hide H1
  have HH2 := hide H2
  clear H1 H2
  obtain ⟨i0, hi, hz0, hz1, hz2⟩ := info_parts info_int5
  go_enter Try.func38, Try.ntmps38
  go_wp2
  go_loopw [5, 10] (fun v i wr => ∃ k : Nat, k ≤ n ∧ i = .int .i64 k ∧ Hid (wr.ownsRow w.heap.size 3 1 v (unl xs ys k).length ((unl xs ys k).map (.int .i64))) ∧ Below w.heap.size w wr) (fun _ i _ => n - (intOf i).toNat)
  case atStart => exact ⟨0, Nat.zero_le _, rfl, hide (World.ownsRow_nil _ _ _ _), Below.refl _ _⟩
  case round =>
    obtain ⟨k, hk, rfl, HO, hB⟩ := hrel
    by_cases hlt : k < n
    · have c1 := (hB.cell (p := ⟨b1, o1 + k, none⟩) hb1).trans (unhide HH1 k hlt)
      have c2 := (hB.cell (p := ⟨b2, o2 + k, none⟩) hb2).trans (unhide HH2 k hlt)
      have b0 : (0 : Int) ≤ (k : Int) := by omega
      have b1 : (k : Int) < (n : Int) := by omega
      have hl := unl_len xs ys k
      by_cases hx : xs k = ys k
      · have hne : (xs k != ys k) = false := by simp [hx]
        go_wp2
        go_roundw
        case measure => simp [intOf]; omega
        case rel => exact ⟨k + 1, by omega, by go_num, hide (by rw [unl, if_pos hx]; exact unhide HO), hB⟩
      · have hne : (xs k != ys k) = true := by simp [hx]
        have hsz := hB.size
        go_wp2_with (at_builtin; refine wpList_append_own _ rfl (.tmp 21) (.tmp 23) _ rfl w.heap.size 3 i0 (.int .i64 0) 1 8 Try.underlying62 hi hz0 hz1 hz2 rfl (by decide) _ _ _ rfl ((unhide HO).alloc _) ⟨wr.heap.size, 0, none⟩ 1 1 [.int .i64 (k : Int)] rfl rfl ?c1 ?c2 ?c3 ?c4 ?c5 ?_)
        case c1 =>
          intro j u hj
          match j, hj with
          | 0, hj =>
            obtain rfl : Value.int .i64 (k : Int) = u := by simpa using hj
            exact (World.cell?_alloc_new wr _ _ _).trans rfl
        case c2 => simp [Value.oneCell']
        case c3 => simp only [maxLen]; omega
        case c4 => omega
        case c5 => simp; omega
        intro v' w1 hown' hgrow _
        have HO' := hide hown'
        have HG' := hide hgrow
        clear hown' hgrow
        go_wp2
        go_roundw
        case measure => simp [intOf]; omega
        case rel => exact ⟨k + 1, by omega, by go_num, hide (by rw [unl, if_neg hx]; simpa using unhide HO'), (hB.alloc hsz _).grown (unhide HG') (by simp; omega) (fun r hr => ((unhide HO).lt r hr).1)⟩
    · obtain rfl : k = n := by omega
      go_wp2
      go_ret
      exact ⟨_, rfl, unhide HO, hB⟩

theorem none_q (g b o n c : Nat) (w : World) (h1 : w.cell? ⟨g, 0, none⟩ = some (.slice (some ⟨b, o, none⟩) n c)) (hn1 : 1 ≤ n) :
    Calls Try.prog 31 #[.pointer (some ⟨g, 0, none⟩)] w fun e w' => e = .returned (.bool false) ∧ w' = w := by
  have hn : ((n : Int) == 0) = false := by simp; omega
  go_enter Try.func31, Try.ntmps31
  go_wp2
  go_ret
  exact ⟨rfl, rfl⟩

set_option maxHeartbeats 2000000 in
theorem refSame_any (b1 o1 c1 b2 o2 c2 n : Nat) (xs ys : Nat → Int) (hn : n ≤ 16384) (w : World) (H1 : ∀ i, i < n → w.cell? ⟨b1, o1 + i, none⟩ = some (.int .u64 (xs i))) (H2 : ∀ i, i < n → w.cell? ⟨b2, o2 + i, none⟩ = some (.int .u64 (ys i))) :
    Calls Try.prog 30 #[.slice (some ⟨b1, o1, none⟩) n c1, .slice (some ⟨b2, o2, none⟩) n c2] w fun e w' => e = .returned (.bool (eqTo xs ys n)) ∧ Below w.heap.size w w' := by
  have HH1 := hide H1
  have HH2 := hide H2
  clear H1 H2
  go_enter Try.func30, Try.ntmps30
  go_wp2
  go_loopw [5] (fun i wr => ∃ k : Nat, k ≤ n ∧ i = .int .i64 k ∧ Hid (eqTo xs ys k = true) ∧ ∃ m, wr = w.drewN m) (fun i _ => n - (intOf i).toNat)
  case atStart => exact ⟨0, Nat.zero_le _, rfl, hide rfl, 0, rfl⟩
  case round =>
    obtain ⟨k, hk, rfl, HE, m, rfl⟩ := hrel
    by_cases hlt : k < n
    · have c1 := unhide HH1 k hlt
      have c2 := unhide HH2 k hlt
      have b0 : (0 : Int) ≤ (k : Int) := by omega
      have b1 : (k : Int) < (n : Int) := by omega
      by_cases hx : xs k = ys k
      · have hne : (xs k != ys k) = false := by simp [hx]
        go_wp2
        go_quiet (fail)
        all_goals go_wp2
        all_goals go_roundw
        all_goals first | (case measure => simp [intOf]; omega) | skip
        all_goals exact ⟨k + 1, by omega, by go_num, hide (by rw [eqTo, unhide HE, hx]; simp), _, rfl⟩
      · have hne : (xs k != ys k) = true := by simp [hx]
        go_wp2
        go_quiet (fail)
        all_goals go_wp2
        all_goals go_ret
        all_goals exact ⟨ret_bool (eqTo_no hlt hx).symm, below_drewN (below_drewN (Below.refl _ _) _) _⟩
    · obtain rfl : k = n := by omega
      go_wp2
      go_ret
      exact ⟨ret_bool (unhide HE).symm, below_drewN (Below.refl _ _) _⟩

set_option maxHeartbeats 2000000 in
theorem refSame_no (A1 A2 : Option Addr) (c1 c2 n m : Nat) (hn : n ≤ 16384) (hm : m ≤ 16384) (hne : n ≠ m) (w : World) :
    Calls Try.prog 30 #[.slice A1 n c1, .slice A2 m c2] w fun e w' => e = .returned (.bool false) ∧ Below w.heap.size w w' := by
  have h1 : ((n : Int) != (m : Int)) = true := by simp; omega
  go_enter Try.func30, Try.ntmps30
  go_wp2
  go_ret
  exact ⟨rfl, Below.refl _ _⟩

set_option maxHeartbeats 2000000 in
theorem equal_no (A1 A2 : Option Addr) (c1 c2 n m : Nat) (hn : n ≤ 16384) (hm : m ≤ 16384) (hne : n ≠ m) (w : World) :
    Calls Try.prog 37 #[.slice A1 n c1, .slice A2 m c2] w fun e w' => e = .returned (.bool false) ∧ Below w.heap.size w w' := by
  have h1 : ((n : Int) != (m : Int)) = true := by simp; omega
  go_enter Try.func37, Try.ntmps37
  go_wp2
  go_ret
  exact ⟨rfl, Below.refl _ _⟩
end Go.Proofs.Ytlhpphlfgjopbaa
