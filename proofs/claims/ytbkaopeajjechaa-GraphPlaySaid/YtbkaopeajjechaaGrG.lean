/- The walks of the reference of layer 8: operations that may be. -/
import Derived.Test.YtbkaopeajjechaaGrF
namespace Go.Proofs.Ytbkaopeajjechaa
set_option linter.unusedVariables false
set_option linter.unusedSimpArgs false
open Go.RowKit Go.Maps

/-- The letters of what a kind names. -/
def nmT : Nat → ByteArray
  | 1 => ⟨#[65, 115]⟩
  | 2 => ⟨#[65, 102, 66]⟩
  | 3 => ⟨#[65, 102, 66]⟩
  | 4 => ⟨#[65, 102, 66, 67]⟩
  | 5 => ⟨#[65, 102]⟩
  | 6 => ⟨#[65, 102, 88]⟩
  | 7 => ⟨#[65, 102, 88, 89]⟩
  | 8 => ⟨#[65, 66]⟩
  | 9 => ⟨#[65, 66]⟩
  | 10 => ⟨#[65]⟩
  | _ => ⟨#[]⟩
/-- The letters of the parts. -/
def ltrOf : Nat → Nat
  | 0 => 65
  | 1 => 66
  | 2 => 67
  | 3 => 102
  | 4 => 115
  | 5 => 88
  | _ => 89

set_option maxRecDepth 100000 in
set_option maxHeartbeats 4000000 in
theorem refNames_any (k : Nat) (h1 : 1 ≤ k) (h2 : k ≤ 11) (w : World) :
    Calls Try.prog 95 #[.int .i64 (k : Int)] w fun e w' => e = .returned (.string (nmT k)) ∧ Below w.heap.size w w' := by
  obtain rfl | rfl | rfl | rfl | rfl | rfl | rfl | rfl | rfl | rfl | rfl : k = 1 ∨ k = 2 ∨ k = 3 ∨ k = 4 ∨ k = 5 ∨ k = 6 ∨ k = 7 ∨ k = 8 ∨ k = 9 ∨ k = 10 ∨ k = 11 := by omega
  all_goals
    simp only [nmT]
    go_enter Try.func95, Try.ntmps95
    go_wp2
    go_ret
    exact ⟨rfl, by repeat (first | exact Below.refl _ _ | assumption | refine Below.alloc ?_ (by first | (simp; done) | (simp; omega) | omega) _ | refine Below.setCell ?_ (by first | (simp; done) | (simp; omega) | omega) _ | apply Below.drew | refine Below.trans ?_ (Below.mono (by assumption) (by first | (simp; done) | (simp; omega) | omega)))⟩

theorem refGet0_any (z : Nat → Int) (w : World) : Calls Try.prog 96 #[opV z, .int .u8 (ltrOf 0 : Nat)] w fun e w' => e = .returned (.int .i64 (z 1)) ∧ Below w.heap.size w w' := by
  simp only [ltrOf]
  go_enter Try.func96, Try.ntmps96
  go_wp2
  go_ret
  exact ⟨rfl, by repeat (first | exact Below.refl _ _ | assumption | refine Below.alloc ?_ (by first | (simp; done) | (simp; omega) | omega) _ | refine Below.setCell ?_ (by first | (simp; done) | (simp; omega) | omega) _ | apply Below.drew | refine Below.trans ?_ (Below.mono (by assumption) (by first | (simp; done) | (simp; omega) | omega)))⟩
theorem refGet1_any (z : Nat → Int) (w : World) : Calls Try.prog 96 #[opV z, .int .u8 (ltrOf 1 : Nat)] w fun e w' => e = .returned (.int .i64 (z 2)) ∧ Below w.heap.size w w' := by
  simp only [ltrOf]
  go_enter Try.func96, Try.ntmps96
  go_wp2
  go_ret
  exact ⟨rfl, by repeat (first | exact Below.refl _ _ | assumption | refine Below.alloc ?_ (by first | (simp; done) | (simp; omega) | omega) _ | refine Below.setCell ?_ (by first | (simp; done) | (simp; omega) | omega) _ | apply Below.drew | refine Below.trans ?_ (Below.mono (by assumption) (by first | (simp; done) | (simp; omega) | omega)))⟩
theorem refGet2_any (z : Nat → Int) (w : World) : Calls Try.prog 96 #[opV z, .int .u8 (ltrOf 2 : Nat)] w fun e w' => e = .returned (.int .i64 (z 3)) ∧ Below w.heap.size w w' := by
  simp only [ltrOf]
  go_enter Try.func96, Try.ntmps96
  go_wp2
  go_ret
  exact ⟨rfl, by repeat (first | exact Below.refl _ _ | assumption | refine Below.alloc ?_ (by first | (simp; done) | (simp; omega) | omega) _ | refine Below.setCell ?_ (by first | (simp; done) | (simp; omega) | omega) _ | apply Below.drew | refine Below.trans ?_ (Below.mono (by assumption) (by first | (simp; done) | (simp; omega) | omega)))⟩
theorem refGet3_any (z : Nat → Int) (w : World) : Calls Try.prog 96 #[opV z, .int .u8 (ltrOf 3 : Nat)] w fun e w' => e = .returned (.int .i64 (z 4)) ∧ Below w.heap.size w w' := by
  simp only [ltrOf]
  go_enter Try.func96, Try.ntmps96
  go_wp2
  go_ret
  exact ⟨rfl, by repeat (first | exact Below.refl _ _ | assumption | refine Below.alloc ?_ (by first | (simp; done) | (simp; omega) | omega) _ | refine Below.setCell ?_ (by first | (simp; done) | (simp; omega) | omega) _ | apply Below.drew | refine Below.trans ?_ (Below.mono (by assumption) (by first | (simp; done) | (simp; omega) | omega)))⟩
theorem refGet4_any (z : Nat → Int) (w : World) : Calls Try.prog 96 #[opV z, .int .u8 (ltrOf 4 : Nat)] w fun e w' => e = .returned (.int .i64 (z 5)) ∧ Below w.heap.size w w' := by
  simp only [ltrOf]
  go_enter Try.func96, Try.ntmps96
  go_wp2
  go_ret
  exact ⟨rfl, by repeat (first | exact Below.refl _ _ | assumption | refine Below.alloc ?_ (by first | (simp; done) | (simp; omega) | omega) _ | refine Below.setCell ?_ (by first | (simp; done) | (simp; omega) | omega) _ | apply Below.drew | refine Below.trans ?_ (Below.mono (by assumption) (by first | (simp; done) | (simp; omega) | omega)))⟩
theorem refGet5_any (z : Nat → Int) (w : World) : Calls Try.prog 96 #[opV z, .int .u8 (ltrOf 5 : Nat)] w fun e w' => e = .returned (.int .i64 (z 6)) ∧ Below w.heap.size w w' := by
  simp only [ltrOf]
  go_enter Try.func96, Try.ntmps96
  go_wp2
  go_ret
  exact ⟨rfl, by repeat (first | exact Below.refl _ _ | assumption | refine Below.alloc ?_ (by first | (simp; done) | (simp; omega) | omega) _ | refine Below.setCell ?_ (by first | (simp; done) | (simp; omega) | omega) _ | apply Below.drew | refine Below.trans ?_ (Below.mono (by assumption) (by first | (simp; done) | (simp; omega) | omega)))⟩
theorem refGet6_any (z : Nat → Int) (w : World) : Calls Try.prog 96 #[opV z, .int .u8 (ltrOf 6 : Nat)] w fun e w' => e = .returned (.int .i64 (z 7)) ∧ Below w.heap.size w w' := by
  simp only [ltrOf]
  go_enter Try.func96, Try.ntmps96
  go_wp2
  go_ret
  exact ⟨rfl, by repeat (first | exact Below.refl _ _ | assumption | refine Below.alloc ?_ (by first | (simp; done) | (simp; omega) | omega) _ | refine Below.setCell ?_ (by first | (simp; done) | (simp; omega) | omega) _ | apply Below.drew | refine Below.trans ?_ (Below.mono (by assumption) (by first | (simp; done) | (simp; omega) | omega)))⟩
theorem refGet_any (p : Nat) (hp : p < 7) (z : Nat → Int) (w : World) : Calls Try.prog 96 #[opV z, .int .u8 (ltrOf p : Nat)] w fun e w' => e = .returned (.int .i64 (z (p + 1))) ∧ Below w.heap.size w w' :=
  match p, hp with
  | 0, _ => refGet0_any z w
  | 1, _ => refGet1_any z w
  | 2, _ => refGet2_any z w
  | 3, _ => refGet3_any z w
  | 4, _ => refGet4_any z w
  | 5, _ => refGet5_any z w
  | 6, _ => refGet6_any z w

set_option maxHeartbeats 2000000 in
theorem refNamed_any (s : ByteArray) (c : Nat) (hc : c < 256) (w : World) (hs : s.size ≤ 100) (R : Bool) (hR : R = decide (∃ i, ∃ h : i < s.size, (s[i]'h).toNat = c)) :
    Calls Try.prog 102 #[.string s, .int .u8 (c : Int)] w fun e w' => e = .returned (.bool R) ∧ w = w' := by
  have hy : Hid (∀ (i : Nat) (h : i < s.size), (s[i]'h).toNat = c → R = true) := hide (fun i h e => by rw [hR]; simp only [decide_eq_true_eq]; exact ⟨i, h, e⟩)
  have hn : Hid ((∀ (i : Nat) (h : i < s.size), (s[i]'h).toNat ≠ c) → R = false) := hide (fun hh => by rw [hR]; simp only [decide_eq_false_iff_not]; rintro ⟨i, h, e⟩; exact hh i h e)
  clear hR
  go_enter Try.func102, Try.ntmps102
  go_wp2
  go_loop [5] (fun i => ∃ k : Nat, k ≤ s.size ∧ i = .int .i64 k ∧ Hid (∀ (j : Nat) (h : j < s.size), j < k → (s[j]'h).toNat ≠ c)) (fun i => s.size - (intOf i).toNat)
  case atStart => exact ⟨0, Nat.zero_le _, rfl, hide (fun j _ hj => by omega)⟩
  case round =>
    obtain ⟨k, hk, rfl, HK⟩ := hrel
    by_cases hlt : k < s.size
    · by_cases hl : (s[k]'hlt).toNat = c
      · have hres := unhide hy k hlt hl
        subst hres
        have hb : (((((s[k]'hlt).toNat : Nat) : Int)) == (c : Int)) = true := by simp; omega
        go_wp2
        go_ret
        exact ⟨rfl, rfl⟩
      · have HK2 : Hid (∀ (j : Nat) (h : j < s.size), j < k + 1 → (s[j]'h).toNat ≠ c) := hide (fun j h hj => by
          by_cases e : j = k
          · subst e; exact hl
          · exact unhide HK j h (by omega))
        have hb : (((((s[k]'hlt).toNat : Nat) : Int)) == (c : Int)) = false := by simp; omega
        go_wp2
        go_round
        case measure => simp [intOf]; omega
        case rel => exact ⟨k + 1, by omega, by go_num, HK2⟩
    · have hres := unhide hn (fun i h => unhide HK i h (by omega))
      subst hres
      go_wp2
      go_ret
      exact ⟨rfl, rfl⟩
end Go.Proofs.Ytbkaopeajjechaa
