/- The walks of package history: how many at most; two lists the same. -/
import Derived.Test.YtahfoogcdgjimaaHsF
import Derived.BigQuiet
namespace Go.Proofs.Ytahfoogcdgjimaa
set_option linter.unusedVariables false
set_option linter.unusedSimpArgs false
open Go.RowKit

/-- How many are under way at most, at the beginnings of the calls below n. -/
def mostI (c : Nat → Nat → Int) (d : Nat → Bool) (len : Nat) : Nat → Int
  | 0 => 0
  | n + 1 => max (mostI c d len n) ((plc (pAt c d (c n 12)) len).length : Int)

theorem mostI_le (c : Nat → Nat → Int) (d : Nat → Bool) (len : Nat) : ∀ n, 0 ≤ mostI c d len n ∧ mostI c d len n ≤ (len : Int)
  | 0 => ⟨Int.le_refl _, by simp [mostI]⟩
  | n + 1 => by
    have := mostI_le c d len n
    have h := plc_len (pAt c d (c n 12)) len
    rw [mostI]
    omega

set_option maxHeartbeats 2000000 in
theorem refMost10_any (A : Option Addr) (len cap : Nat) (c : Nat → Nat → Int) (b d : Nat → Bool) (hlen : len ≤ 1000) (w : World) (H : CallOk w A len c b d) :
    Calls Try.prog 21 #[.slice A len cap] w fun e w' => e = .returned (.int .i64 (mostI c d len len)) ∧ Below w.heap.size w w' := by
  have HH := hide (fun W (hW : Below w.heap.size w W) => H.keep hW)
  clear H
  go_enter Try.func21, Try.ntmps21
  go_wp2
  go_loopw [3, 4] (fun v i wr => ∃ k : Nat, k ≤ len ∧ i = .int .i64 k ∧ v = .int .i64 (mostI c d len k) ∧ Below w.heap.size w wr) (fun _ i _ => len - (intOf i).toNat)
  case atStart => exact ⟨0, Nat.zero_le _, rfl, rfl, Below.refl _ _⟩
  case round =>
    obtain ⟨k, hk, rfl, rfl, hB⟩ := hrel
    by_cases hlt : k < len
    · obtain ⟨g, o, rfl, hg, hc⟩ := unhide HH _ hB (by omega)
      obtain ⟨c0, c1, c2, c3, c4, c5, c6, c7, c8, c9, c10, c11, c12, c13, c14⟩ := hc k hlt
      have b0 : (0 : Int) ≤ (k : Int) := by omega
      have b1 : (k : Int) < (len : Int) := by omega
      have hsz := hB.size
      clear hc
      go_wp2_with fail
      refine (refAt10_any (some ⟨g, o, none⟩) len cap c b d (c k 12) hlen _ (unhide HH _ hB)).mono ?_
      rintro e w2 ⟨A', c', rfl, hr, hb2⟩
      have hz2 := hb2.size
      (try simp only [World.size_alloc] at hz2)
      have hB2 : Below w.heap.size w w2 := by repeat (first | exact Below.refl _ _ | assumption | refine Below.alloc ?_ (by first | (simp; done) | (simp; omega) | omega) _ | refine Below.setCell ?_ (by first | (simp; done) | (simp; omega) | omega) _ | apply Below.drew | refine Below.trans ?_ (Below.mono (by assumption) (by first | (simp; done) | (simp; omega) | omega)))
      have hl := plc_len (pAt c d (c k 12)) len
      have hmx := hide (show mostI c d len (k + 1) = max (mostI c d len k) ((plc (pAt c d (c k 12)) len).length : Int) from rfl)
      have hle := mostI_le c d len k
      clear hb2 hr c0 c1 c2 c3 c4 c5 c6 c7 c8 c9 c10 c11 c12 c13 c14
      generalize (plc (pAt c d (c k 12)) len).length = L at *
      generalize mostI c d len k = M at *
      by_cases hML : M < (L : Int)
      · have hLM : ¬ (L : Int) < M := by omega
        have hLM2 : ¬ (L : Int) ≤ M := by omega
        go_wp2
        go_roundw
        case measure => simp [intOf]; omega
        case rel => exact ⟨k + 1, by omega, by go_num, by rw [unhide hmx]; first | rfl | (congr 1; omega), hB2⟩
      · have hLM : (L : Int) ≤ M := by omega
        go_wp2
        go_roundw
        case measure => simp [intOf]; omega
        case rel => exact ⟨k + 1, by omega, by go_num, by rw [unhide hmx]; first | rfl | (congr 1; omega), hB2⟩
    · obtain rfl : k = len := by omega
      go_wp2
      go_ret
      exact ⟨rfl, hB⟩

set_option maxHeartbeats 2000000 in
theorem most10_any (A : Option Addr) (len cap : Nat) (c : Nat → Nat → Int) (b d : Nat → Bool) (hlen : len ≤ 1000) (w : World) (H : CallOk w A len c b d) :
    Calls Try.prog 12 #[.slice A len cap] w fun e w' => e = .returned (.int .i64 (mostI c d len len)) ∧ Below w.heap.size w w' := by
  have HH := hide (fun W (hW : Below w.heap.size w W) => H.keep hW)
  clear H
  go_enter Try.func12, Try.ntmps12
  go_wp2
  go_loopw [3, 8] (fun v i wr => ∃ k : Nat, k ≤ len ∧ i = .int .i64 k ∧ v = .int .i64 (mostI c d len k) ∧ Below w.heap.size w wr) (fun _ i _ => len - (intOf i).toNat)
  case atStart => exact ⟨0, Nat.zero_le _, rfl, rfl, Below.refl _ _⟩
  case round =>
    obtain ⟨k, hk, rfl, rfl, hB⟩ := hrel
    by_cases hlt : k < len
    · obtain ⟨g, o, rfl, hg, hc⟩ := unhide HH _ hB (by omega)
      obtain ⟨c0, c1, c2, c3, c4, c5, c6, c7, c8, c9, c10, c11, c12, c13, c14⟩ := hc k hlt
      have b0 : (0 : Int) ≤ (k : Int) := by omega
      have b1 : (k : Int) < (len : Int) := by omega
      have hsz := hB.size
      clear hc
      go_wp2_with fail
      refine (at_any (some ⟨g, o, none⟩) len cap c b d (c k 12) _ rfl hlen _ (unhide HH _ (hB.alloc hsz _))).mono ?_
      rintro e w2 ⟨A', c', rfl, hr, hb2⟩
      have hz2 := hb2.size
      (try simp only [World.size_alloc] at hz2)
      have hB2 : Below w.heap.size w w2 := by repeat (first | exact Below.refl _ _ | assumption | refine Below.alloc ?_ (by first | (simp; done) | (simp; omega) | omega) _ | refine Below.setCell ?_ (by first | (simp; done) | (simp; omega) | omega) _ | apply Below.drew | refine Below.trans ?_ (Below.mono (by assumption) (by first | (simp; done) | (simp; omega) | omega)))
      have hl := plc_len (pAt c d (c k 12)) len
      have hmx := hide (show mostI c d len (k + 1) = max (mostI c d len k) ((plc (pAt c d (c k 12)) len).length : Int) from rfl)
      have hle := mostI_le c d len k
      clear hb2 hr c0 c1 c2 c3 c4 c5 c6 c7 c8 c9 c10 c11 c12 c13 c14
      generalize (plc (pAt c d (c k 12)) len).length = L at *
      generalize mostI c d len k = M at *
      by_cases hML : M < (L : Int)
      · have hLM : ¬ (L : Int) < M := by omega
        have hLM2 : ¬ (L : Int) ≤ M := by omega
        go_wp2
        go_roundw
        case measure => simp [intOf]; omega
        case rel => exact ⟨k + 1, by omega, by go_num, by rw [unhide hmx]; first | rfl | (congr 1; omega), hB2⟩
      · have hLM : (L : Int) ≤ M := by omega
        go_wp2
        go_roundw
        case measure => simp [intOf]; omega
        case rel => exact ⟨k + 1, by omega, by go_num, by rw [unhide hmx]; first | rfl | (congr 1; omega), hB2⟩
    · obtain rfl : k = len := by omega
      go_wp2
      go_ret
      exact ⟨rfl, hB⟩

set_option maxHeartbeats 2000000 in
theorem same10_any (A B : Option Addr) (c d : Nat) (L M : List Int) (hn : L.length ≤ 1000) (hm : M.length ≤ 1000) (w : World) (H1 : RdL w .i64 A L) (H2 : RdL w .i64 B M) :
    Calls Try.prog 14 #[.slice A L.length c, .slice B M.length d] w fun e w' => e = .returned (.bool (decide (L = M))) ∧ Below w.heap.size w w' := by
  have HH1 := hide H1
  have HH2 := hide H2
  clear H1 H2
  by_cases hlm : L.length = M.length
  · have HQ := hide hlm
    rw [← hlm]
    rw [← hlm] at hm
    have hnb : ((L.length : Int) != (L.length : Int)) = false := by simp
    clear hlm
    go_enter Try.func14, Try.ntmps14
    go_wp2
    go_loopw [5] (fun i wr => ∃ k : Nat, k ≤ L.length ∧ i = .int .i64 k ∧ Hid (∀ j, j < k → L.getD j 0 = M.getD j 0) ∧ ∃ m, wr = w.drewN m) (fun i _ => L.length - (intOf i).toNat)
    case atStart => exact ⟨0, Nat.zero_le _, rfl, hide (fun j hj => absurd hj (by omega)), 0, rfl⟩
    case round =>
      obtain ⟨k, hk, rfl, HE, m, rfl⟩ := hrel
      by_cases hlt : k < L.length
      · obtain ⟨b1, o1, rfl, hb1, hc1⟩ := unhide HH1 (by omega)
        obtain ⟨b2, o2, rfl, hb2, hc2⟩ := unhide HH2 (by rw [← unhide HQ]; omega)
        have c1 := hc1 k hlt
        have c2 := hc2 k (by rw [← unhide HQ]; omega)
        have b0 : (0 : Int) ≤ (k : Int) := by omega
        have b1 : (k : Int) < (L.length : Int) := by omega
        clear hc1 hc2
        by_cases hx : L.getD k 0 = M.getD k 0
        · have HX := hide hx
          rw [← hx] at c2
          clear hx
          go_wp2
          go_quiet (fail)
          all_goals go_wp2
          go_roundw
          case measure => simp [intOf]; omega
          case rel => exact ⟨k + 1, by omega, by go_num, hide (fun j hj => by
            by_cases e : j = k
            · rw [e]; exact unhide HX
            · exact unhide HE j (by omega)), _, rfl⟩
        · have hne : (L.getD k 0 != M.getD k 0) = true := by simpa using hx
          have HX := hide hx
          clear hx
          generalize L.getD k 0 = u at c1 hne
          generalize M.getD k 0 = v at c2 hne
          go_wp2
          go_quiet (fail)
          all_goals go_wp2
          go_ret
          exact ⟨ret_bool (by simp only [Bool.false_eq, decide_eq_false_iff_not]; rintro rfl; exact unhide HX rfl), below_drewN (below_drewN (Below.refl _ _) _) _⟩
      · obtain rfl : k = L.length := by omega
        go_wp2
        go_ret
        refine ⟨ret_bool ?_, below_drewN (Below.refl _ _) _⟩
        simp only [Bool.true_eq, decide_eq_true_eq]
        refine List.ext_getElem (unhide HQ) (fun j h1 h2 => ?_)
        have := unhide HE j h1
        simpa [List.getD, h1, h2] using this
  · have hnb : ((L.length : Int) != (M.length : Int)) = true := by simp; omega
    go_enter Try.func14, Try.ntmps14
    go_wp2
    go_ret
    exact ⟨ret_bool (by simp only [Bool.false_eq, decide_eq_false_iff_not]; rintro rfl; exact hlm rfl), Below.refl _ _⟩
end Go.Proofs.Ytahfoogcdgjimaa
