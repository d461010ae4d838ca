/- The walks of package history: the reference's lists of places. -/
import Derived.Test.YtahfoogcdgjimaaHsC
namespace Go.Proofs.Ytahfoogcdgjimaa
set_option linter.unusedVariables false
set_option linter.unusedSimpArgs false
open Go.RowKit

/-- The places, below n, at which it is so. -/
def plc (p : Nat → Bool) : Nat → List Int
  | 0 => []
  | n + 1 => if p n then plc p n ++ [(n : Int)] else plc p n

theorem plc_len (p : Nat → Bool) : ∀ n, (plc p n).length ≤ n
  | 0 => Nat.le_refl _
  | n + 1 => by
    have := plc_len p n
    unfold plc
    split <;> simp <;> omega

theorem info_int10 : (Try.prog.info? 3).map (fun i => (i.zero, i.size, i.bytes)) = some (some (.int .i64 0), 1, 8) := by kernel_rfl

def pTh (c : Nat → Nat → Int) (x : Int) (i : Nat) : Bool := c i 0 == x
def pOp (d : Nat → Bool) (i : Nat) : Bool := !d i
def pAt (c : Nat → Nat → Int) (d : Nat → Bool) (x : Int) (i : Nat) : Bool := undB (c i) (d i) x
def pCut (c : Nat → Nat → Int) (x : Int) (i : Nat) : Bool := decide (c i 12 ≤ x)

set_option maxHeartbeats 2000000 in
theorem refOf10_any (A : Option Addr) (len cap : Nat) (c : Nat → Nat → Int) (b d : Nat → Bool) (x : Int) (hlen : len ≤ 1000) (w : World) (H : CallOk w A len c b d) :
    Calls Try.prog 16 #[.slice A len cap, .int .i64 x] w fun e w' => ∃ A' c', e = .returned (.slice A' (plc (pTh c x) len).length c') ∧ RdL w' .i64 A' (plc (pTh c x) len) ∧ Below w.heap.size w w' := by
  have HH := hide H
  clear H
  obtain ⟨i0, hi, hz0, hz1, hz2⟩ := info_parts info_int10
  go_enter Try.func16, Try.ntmps16
  go_wp2
  go_loopw [5, 6] (fun v i wr => ∃ k : Nat, k ≤ len ∧ i = .int .i64 k ∧ Hid (wr.ownsRow w.heap.size 3 1 v (plc (pTh c x) k).length ((plc (pTh c x) k).map (.int .i64))) ∧ Below w.heap.size w wr) (fun _ i _ => len - (intOf i).toNat)
  case atStart => exact ⟨0, Nat.zero_le _, rfl, hide (World.ownsRow_nil _ _ _ _), Below.refl _ _⟩
  case round =>
    obtain ⟨k, hk, rfl, HO, hB⟩ := hrel
    by_cases hlt : k < len
    · obtain ⟨g, o, rfl, hg, hc⟩ := (unhide HH).keep hB (by omega)
      obtain ⟨c0, _, _, _, _, _, _, _, _, _, _, _, _, _, c14⟩ := hc k hlt
      have b0 : (0 : Int) ≤ (k : Int) := by omega
      have b1 : (k : Int) < (len : Int) := by omega
      have hsz := hB.size
      have hl := plc_len (pTh c x) k
      clear hc
      rcases Bool.eq_false_or_eq_true ((pTh c x) k) with hp | hp
      · have HP := hide hp
        have h1b : (c k 0 == x) = true := hp
        clear hp
        (go_wp2_with (at_builtin; refine wpList_append_own _ rfl (.tmp 20) (.tmp 22) _ rfl w.heap.size 3 i0 (.int .i64 0) 1 8 Try.underlying40 hi hz0 hz1 hz2 rfl (by decide) _ _ _ rfl ((unhide HO).alloc _) ⟨wr.heap.size, 0, none⟩ 1 1 [.int .i64 (k : Int)] rfl rfl ?c1 ?c2 ?c3 ?c4 ?c5 ?_)); (case c1 => exact one_new _ _ _); (case c2 => simp [Value.oneCell']); (case c3 => simp only [maxLen]; omega); (case c4 => omega); (case c5 => simp; omega); (intro v' w3 hown' hgrow _); (have HO' := hide hown'); (have HG' := hide hgrow); (clear hown' hgrow)
        go_wp2
        go_roundw
        case measure => simp [intOf]; omega
        case rel => exact ⟨k + 1, by omega, by go_num, hide (by rw [plc, unhide HP, if_pos rfl]; simpa using unhide HO'), (hB.alloc hsz _).grown (unhide HG') (by simp; omega) (fun r hr => ((unhide HO).lt r hr).1)⟩
      · have HP := hide hp
        have h1b : (c k 0 == x) = false := hp
        clear hp
        go_wp2
        go_roundw
        case measure => simp [intOf]; omega
        case rel => exact ⟨k + 1, by omega, by go_num, hide (by rw [plc, unhide HP, if_neg (by simp)]; exact unhide HO), hB⟩
    · obtain rfl : k = len := by omega
      obtain ⟨A', c', rfl, hr⟩ := RdL.of_own (unhide HO)
      have HR := hide hr
      clear hr
      go_wp2
      go_ret
      exact ⟨A', c', rfl, unhide HR, hB⟩

set_option maxHeartbeats 2000000 in
theorem refOpen10_any (A : Option Addr) (len cap : Nat) (c : Nat → Nat → Int) (b d : Nat → Bool) (hlen : len ≤ 1000) (w : World) (H : CallOk w A len c b d) :
    Calls Try.prog 18 #[.slice A len cap] w fun e w' => ∃ A' c', e = .returned (.slice A' (plc (pOp d) len).length c') ∧ RdL w' .i64 A' (plc (pOp d) len) ∧ Below w.heap.size w w' := by
  have HH := hide H
  clear H
  obtain ⟨i0, hi, hz0, hz1, hz2⟩ := info_parts info_int10
  go_enter Try.func18, Try.ntmps18
  go_wp2
  go_loopw [3, 4] (fun v i wr => ∃ k : Nat, k ≤ len ∧ i = .int .i64 k ∧ Hid (wr.ownsRow w.heap.size 3 1 v (plc (pOp d) k).length ((plc (pOp d) k).map (.int .i64))) ∧ Below w.heap.size w wr) (fun _ i _ => len - (intOf i).toNat)
  case atStart => exact ⟨0, Nat.zero_le _, rfl, hide (World.ownsRow_nil _ _ _ _), Below.refl _ _⟩
  case round =>
    obtain ⟨k, hk, rfl, HO, hB⟩ := hrel
    by_cases hlt : k < len
    · obtain ⟨g, o, rfl, hg, hc⟩ := (unhide HH).keep hB (by omega)
      obtain ⟨c0, _, _, _, _, _, _, _, _, _, _, _, _, _, c14⟩ := hc k hlt
      have b0 : (0 : Int) ≤ (k : Int) := by omega
      have b1 : (k : Int) < (len : Int) := by omega
      have hsz := hB.size
      have hl := plc_len (pOp d) k
      clear hc
      rcases Bool.eq_false_or_eq_true ((pOp d) k) with hp | hp
      · have HP := hide hp
        have h1b : d k = false := by simpa [pOp] using hp
        clear hp
        rw [h1b] at c14
        (go_wp2_with (at_builtin; refine wpList_append_own _ rfl (.tmp 17) (.tmp 19) _ rfl w.heap.size 3 i0 (.int .i64 0) 1 8 Try.underlying40 hi hz0 hz1 hz2 rfl (by decide) _ _ _ rfl ((unhide HO).alloc _) ⟨wr.heap.size, 0, none⟩ 1 1 [.int .i64 (k : Int)] rfl rfl ?c1 ?c2 ?c3 ?c4 ?c5 ?_)); (case c1 => exact one_new _ _ _); (case c2 => simp [Value.oneCell']); (case c3 => simp only [maxLen]; omega); (case c4 => omega); (case c5 => simp; omega); (intro v' w3 hown' hgrow _); (have HO' := hide hown'); (have HG' := hide hgrow); (clear hown' hgrow)
        go_wp2
        go_roundw
        case measure => simp [intOf]; omega
        case rel => exact ⟨k + 1, by omega, by go_num, hide (by rw [plc, unhide HP, if_pos rfl]; simpa using unhide HO'), (hB.alloc hsz _).grown (unhide HG') (by simp; omega) (fun r hr => ((unhide HO).lt r hr).1)⟩
      · have HP := hide hp
        have h1b : d k = true := by simpa [pOp] using hp
        clear hp
        rw [h1b] at c14
        go_wp2
        go_roundw
        case measure => simp [intOf]; omega
        case rel => exact ⟨k + 1, by omega, by go_num, hide (by rw [plc, unhide HP, if_neg (by simp)]; exact unhide HO), hB⟩
    · obtain rfl : k = len := by omega
      obtain ⟨A', c', rfl, hr⟩ := RdL.of_own (unhide HO)
      have HR := hide hr
      clear hr
      go_wp2
      go_ret
      exact ⟨A', c', rfl, unhide HR, hB⟩

set_option maxHeartbeats 2000000 in
theorem refAt10_any (A : Option Addr) (len cap : Nat) (c : Nat → Nat → Int) (b d : Nat → Bool) (x : Int) (hlen : len ≤ 1000) (w : World) (H : CallOk w A len c b d) :
    Calls Try.prog 20 #[.slice A len cap, .int .i64 x] w fun e w' => ∃ A' c', e = .returned (.slice A' (plc (pAt c d x) len).length c') ∧ RdL w' .i64 A' (plc (pAt c d x) len) ∧ Below w.heap.size w w' := by
  have HH := hide H
  clear H
  have CU := hide (fun i W => refUnder_any (c i) (b i) (d i) x W)
  obtain ⟨i0, hi, hz0, hz1, hz2⟩ := info_parts info_int10
  go_enter Try.func20, Try.ntmps20
  go_wp2
  go_loopw [5, 6] (fun v i wr => ∃ k : Nat, k ≤ len ∧ i = .int .i64 k ∧ Hid (wr.ownsRow w.heap.size 3 1 v (plc (pAt c d x) k).length ((plc (pAt c d x) k).map (.int .i64))) ∧ Below w.heap.size w wr) (fun _ i _ => len - (intOf i).toNat)
  case atStart => exact ⟨0, Nat.zero_le _, rfl, hide (World.ownsRow_nil _ _ _ _), Below.refl _ _⟩
  case round =>
    obtain ⟨k, hk, rfl, HO, hB⟩ := hrel
    by_cases hlt : k < len
    · obtain ⟨g, o, rfl, hg, hc⟩ := (unhide HH).keep hB (by omega)
      obtain ⟨c0, c1, c2, c3, c4, c5, c6, c7, c8, c9, c10, c11, c12, c13, c14⟩ := hc k hlt
      have b0 : (0 : Int) ≤ (k : Int) := by omega
      have b1 : (k : Int) < (len : Int) := by omega
      have hsz := hB.size
      have hl := plc_len (pAt c d x) k
      have hCU := unhide CU k
      clear hc
      go_wp2_with fail
      refine (hCU _).mono ?_
      rintro e w2 ⟨rfl, hb2⟩
      have hz2' := hb2.size
      have HO2 := hide (ownsRow_below (unhide HO) hb2)
      have hB2 : Below w.heap.size w w2 := by repeat (first | exact Below.refl _ _ | assumption | refine Below.alloc ?_ (by first | (simp; done) | (simp; omega) | omega) _ | refine Below.setCell ?_ (by first | (simp; done) | (simp; omega) | omega) _ | apply Below.drew | refine Below.trans ?_ (Below.mono (by assumption) (by first | (simp; done) | (simp; omega) | omega)))
      clear hb2 hCU c0 c1 c2 c3 c4 c5 c6 c7 c8 c9 c10 c11 c12 c13 c14
      rcases Bool.eq_false_or_eq_true ((pAt c d x) k) with hp | hp
      · have HP := hide hp
        have h1b : undB (c k) (d k) x = true := hp
        rw [h1b]
        clear hp h1b
        (go_wp2_with (at_builtin; refine wpList_append_own _ rfl (.tmp 19) (.tmp 21) _ rfl w.heap.size 3 i0 (.int .i64 0) 1 8 Try.underlying40 hi hz0 hz1 hz2 rfl (by decide) _ _ _ rfl ((unhide HO2).alloc _) ⟨w2.heap.size, 0, none⟩ 1 1 [.int .i64 (k : Int)] rfl rfl ?c1 ?c2 ?c3 ?c4 ?c5 ?_)); (case c1 => exact one_new _ _ _); (case c2 => simp [Value.oneCell']); (case c3 => simp only [maxLen]; omega); (case c4 => omega); (case c5 => simp; omega); (intro v' w3 hown' hgrow _); (have HO' := hide hown'); (have HG' := hide hgrow); (clear hown' hgrow)
        go_wp2
        go_roundw
        case measure => simp [intOf]; omega
        case rel => exact ⟨k + 1, by omega, by go_num, hide (by rw [plc, unhide HP, if_pos rfl]; simpa using unhide HO'), (hB2.alloc (by omega) _).grown (unhide HG') (by simp; omega) (fun r hr => ((unhide HO2).lt r hr).1)⟩
      · have HP := hide hp
        have h1b : undB (c k) (d k) x = false := hp
        rw [h1b]
        clear hp h1b
        go_wp2
        go_roundw
        case measure => simp [intOf]; omega
        case rel => exact ⟨k + 1, by omega, by go_num, hide (by rw [plc, unhide HP, if_neg (by simp)]; exact unhide HO2), hB2⟩
    · obtain rfl : k = len := by omega
      obtain ⟨A', c', rfl, hr⟩ := RdL.of_own (unhide HO)
      have HR := hide hr
      clear hr
      go_wp2
      go_ret
      exact ⟨A', c', rfl, unhide HR, hB⟩
end Go.Proofs.Ytahfoogcdgjimaa
