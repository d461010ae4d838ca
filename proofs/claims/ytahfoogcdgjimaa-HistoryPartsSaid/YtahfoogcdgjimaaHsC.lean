/- The walks of package history: the reference's Check. -/
import Derived.Test.YtahfoogcdgjimaaHsB
import Derived.StillTailTactics
import Derived.Deep.DeepCutAuto
namespace Go.Proofs.Ytahfoogcdgjimaa
set_option linter.unusedVariables false
set_option linter.unusedSimpArgs false
open Go.RowKit

/-- The calls below k are so. -/
def HistTo (c : Nat → Nat → Int) (b d : Nat → Bool) (n : Int) (k : Nat) : Prop :=
  ∀ i, i < k → oneB (c i) (b i) (d i) n = true ∧ ∀ j, j < i → twoB (c j) (d j) (c i) (d i) = true

open Classical in
/-- What Check answers. -/
noncomputable def chkI (c : Nat → Nat → Int) (b d : Nat → Bool) (n : Int) (len : Nat) : Int :=
  if n < 1 ∨ 8 < n then 2 else if 400 < len then 3 else if HistTo c b d n len then 0 else 200

set_option maxHeartbeats 2000000 in
theorem refChk10_bad (A : Option Addr) (len cap : Nat) (n : Int) (h : n < 1 ∨ 8 < n) (w : World) :
    Calls Try.prog 10 #[.slice A len cap, .int .i64 n] w fun e w' => e = .returned (.int .i64 2) ∧ Below w.heap.size w w' := by
  by_cases h1 : n < 1
  · go_enter Try.func10, Try.ntmps10
    go_wp2
    go_ret
    exact ⟨rfl, by repeat (first | exact Below.refl _ _ | assumption | refine Below.alloc ?_ (by first | (simp; done) | (simp; omega) | omega) _ | refine Below.setCell ?_ (by first | (simp; done) | (simp; omega) | omega) _ | apply Below.drew | refine Below.trans ?_ (Below.mono (by assumption) (by first | (simp; done) | (simp; omega) | omega)))⟩
  · have h2 : 8 < n := by omega
    have h3 : ¬ n ≤ 8 := by omega
    go_enter Try.func10, Try.ntmps10
    go_wp2
    go_ret
    exact ⟨rfl, by repeat (first | exact Below.refl _ _ | assumption | refine Below.alloc ?_ (by first | (simp; done) | (simp; omega) | omega) _ | refine Below.setCell ?_ (by first | (simp; done) | (simp; omega) | omega) _ | apply Below.drew | refine Below.trans ?_ (Below.mono (by assumption) (by first | (simp; done) | (simp; omega) | omega)))⟩

set_option maxHeartbeats 2000000 in
theorem refChk10_len (A : Option Addr) (len cap : Nat) (n : Int) (h1 : 1 ≤ n) (h2 : n ≤ 8) (h : 400 < len) (w : World) :
    Calls Try.prog 10 #[.slice A len cap, .int .i64 n] w fun e w' => e = .returned (.int .i64 3) ∧ Below w.heap.size w w' := by
  have b1 : ¬ n < 1 := by omega
  have b2 : ¬ 8 < n := by omega
  have b3 : (400 : Int) < (len : Int) := by omega
  go_enter Try.func10, Try.ntmps10
  go_wp2
  go_ret
  exact ⟨rfl, by repeat (first | exact Below.refl _ _ | assumption | refine Below.alloc ?_ (by first | (simp; done) | (simp; omega) | omega) _ | refine Below.setCell ?_ (by first | (simp; done) | (simp; omega) | omega) _ | apply Below.drew | refine Below.trans ?_ (Below.mono (by assumption) (by first | (simp; done) | (simp; omega) | omega)))⟩

set_option maxHeartbeats 4000000 in
theorem refChk10_ok (A : Option Addr) (len cap : Nat) (c : Nat → Nat → Int) (b d : Nat → Bool) (n : Int) (h1 : 1 ≤ n) (h2 : n ≤ 8) (h : len ≤ 400) (w : World) (H : CallOk w A len c b d) :
    Calls Try.prog 10 #[.slice A len cap, .int .i64 n] w fun e w' => e = .returned (.int .i64 (chkI c b d n len)) ∧ Below w.heap.size w w' := by
  have hr0 : Hid (HistTo c b d n len → chkI c b d n len = 0) := hide (fun hh => by unfold chkI; rw [if_neg (by omega), if_neg (by omega), if_pos hh])
  have hr1 : Hid (¬ HistTo c b d n len → chkI c b d n len = 200) := hide (fun hh => by unfold chkI; rw [if_neg (by omega), if_neg (by omega), if_neg hh])
  generalize chkI c b d n len = R at *
  have HH := hide (fun W (hW : Below w.heap.size w W) => H.keep hW)
  have C1 := hide (fun i W => one_any (c i) (b i) (d i) n W)
  have C2 := hide (fun i j W => two_any (c i) (b i) (d i) (c j) (b j) (d j) W)
  clear H
  have b1 : ¬ n < 1 := by omega
  have b2 : ¬ 8 < n := by omega
  have b3 : ¬ (400 : Int) < (len : Int) := by omega
  go_enter Try.func10, Try.ntmps10
  go_wp2
  go_loopw [5] (fun i wr => ∃ k : Nat, k ≤ len ∧ i = .int .i64 k ∧ Hid (HistTo c b d n k) ∧ Below w.heap.size w wr) (fun i _ => len - (intOf i).toNat)
  case atStart => exact ⟨0, Nat.zero_le _, rfl, hide (fun i hi => by omega), Below.refl _ _⟩
  case round =>
    obtain ⟨k, hk, rfl, HT, hB⟩ := hrel
    by_cases hlt : k < len
    · obtain ⟨g, o, rfl, hg, hc⟩ := unhide HH _ hB (by omega)
      have HC := hide hc
      obtain ⟨c0, c1, c2, c3, c4, c5, c6, c7, c8, c9, c10, c11, c12, c13, c14⟩ := hc k hlt
      have b4 : (0 : Int) ≤ (k : Int) := by omega
      have b5 : (k : Int) < (len : Int) := by omega
      have hsz := hB.size
      have hC1 := unhide C1 k
      clear hc
      cases e1 : oneB (c k) (b k) (d k) n with
      | false =>
        rw [e1] at hC1
        have hres := unhide hr1 (fun hh => by have := (hh k hlt).1; rw [e1] at this; cases this)
        subst hres
        go_wp2_with fail
        refine (hC1 _).mono ?_
        rintro e w1 ⟨rfl, hw1⟩; obtain ⟨hcw1, hfw1⟩ := bcell hw1; (try (simp only [World.size_drew, World.cell?_drew, World.frozen?_drew] at hcw1 hfw1)); have hzw1 := hw1.size; (try (simp only [World.size_alloc, World.size_setCell, World.size_drew] at hzw1)); (try (have hzw1_wr_0 : wr.heap.size < w1.heap.size := by omega)); (try (have hzw1_wr_1 : wr.heap.size + 1 < w1.heap.size := by omega)); (try (have hzw1_wr_2 : wr.heap.size + 1 + 1 < w1.heap.size := by omega)); (try (have hzw1_wr_3 : wr.heap.size + 1 + 1 + 1 < w1.heap.size := by omega)); (try (have hyw1_wr : wr.heap.size ≤ w1.heap.size := by omega)); (try (have hyw1_wra : wr.heap.size + 1 ≤ w1.heap.size := by omega)); (try (have hzw1_w_0 : w.heap.size < w1.heap.size := by omega)); (try (have hzw1_w_1 : w.heap.size + 1 < w1.heap.size := by omega)); (try (have hzw1_w_2 : w.heap.size + 1 + 1 < w1.heap.size := by omega)); (try (have hzw1_w_3 : w.heap.size + 1 + 1 + 1 < w1.heap.size := by omega)); (try (have hyw1_w : w.heap.size ≤ w1.heap.size := by omega)); (try (have hyw1_wa : w.heap.size + 1 ≤ w1.heap.size := by omega))
        go_wp2
        go_ret
        exact ⟨rfl, by repeat (first | exact Below.refl _ _ | assumption | refine Below.alloc ?_ (by first | (simp; done) | (simp; omega) | omega) _ | refine Below.setCell ?_ (by first | (simp; done) | (simp; omega) | omega) _ | apply Below.drew | refine Below.trans ?_ (Below.mono (by assumption) (by first | (simp; done) | (simp; omega) | omega)))⟩
      | true =>
        rw [e1] at hC1
        have E1 := hide e1
        clear e1
        go_wp2_with fail
        refine (hC1 _).mono ?_
        rintro e w1 ⟨rfl, hw1⟩
        have hB1 : Below w.heap.size w w1 := by repeat (first | exact Below.refl _ _ | assumption | refine Below.alloc ?_ (by first | (simp; done) | (simp; omega) | omega) _ | refine Below.setCell ?_ (by first | (simp; done) | (simp; omega) | omega) _ | apply Below.drew | refine Below.trans ?_ (Below.mono (by assumption) (by first | (simp; done) | (simp; omega) | omega)))
        clear hw1 hC1 hsz hB HC c0 c1 c2 c3 c4 c5 c6 c7 c8 c9 c10 c11 c12 c13 c14
        go_wp2_with fail
        go_loopw [6] (fun i wr => ∃ m : Nat, m ≤ k ∧ i = .int .i64 m ∧ Hid (∀ j, j < m → twoB (c j) (d j) (c k) (d k) = true) ∧ Below w.heap.size w wr) (fun i _ => k - (intOf i).toNat)
        case atStart => exact ⟨0, Nat.zero_le _, rfl, hide (fun i hi => by omega), hB1⟩
        case round =>
          obtain ⟨m, hm, rfl, HQ, hBq⟩ := hrel
          clear hB1
          by_cases hlm : m < k
          · obtain ⟨g', o', he, hg, hc⟩ := unhide HH _ hBq (by omega)
            injection he with he
            injection he with he1 he2 _
            subst he1 he2
            obtain ⟨c0, c1, c2, c3, c4, c5, c6, c7, c8, c9, c10, c11, c12, c13, c14⟩ := hc k hlt
            obtain ⟨q0, q1, q2, q3, q4, q5, q6, q7, q8, q9, q10, q11, q12, q13, q14⟩ := hc m (by omega)
            have b6 : (0 : Int) ≤ (m : Int) := by omega
            have b7 : (m : Int) < (len : Int) := by omega
            have hsz := hBq.size
            have hC2 := unhide C2 m k
            clear hc
            go_upto_region 13 with fail
            go_still_tail 8, (by kernel_rfl)
            go_wp2_with fail
            refine (hC2 _).mono ?_
            rintro e w2 ⟨rfl, hw2⟩
            have hB2 : Below w.heap.size w w2 := by repeat (first | exact Below.refl _ _ | assumption | refine Below.alloc ?_ (by first | (simp; done) | (simp; omega) | omega) _ | refine Below.setCell ?_ (by first | (simp; done) | (simp; omega) | omega) _ | apply Below.drew | refine Below.trans ?_ (Below.mono (by assumption) (by first | (simp; done) | (simp; omega) | omega)))
            clear hw2 hsz hBq c0 c1 c2 c3 c4 c5 c6 c7 c8 c9 c10 c11 c12 c13 c14 q0 q1 q2 q3 q4 q5 q6 q7 q8 q9 q10 q11 q12 q13 q14
            cases e2 : twoB (c m) (d m) (c k) (d k) with
            | false =>
              have hres := unhide hr1 (fun hh => by have := (hh k hlt).2 m hlm; rw [e2] at this; cases this)
              subst hres
              go_wp2
              go_ret
              exact ⟨rfl, hB2⟩
            | true =>
              go_wp2
              go_roundw
              case measure => simp [intOf]; omega
              case rel => exact ⟨m + 1, by omega, by go_num, hide (fun j hj => by
                by_cases e : j = m
                · subst e; exact e2
                · exact unhide HQ j (by omega)), hB2⟩
          · obtain rfl : m = k := by omega
            have hT := hide (show HistTo c b d n (m + 1) from fun i hi => by
              by_cases e : i = m
              · subst e
                exact ⟨unhide E1, unhide HQ⟩
              · exact unhide HT i (by omega))
            go_wp2
            go_roundw
            case measure => simp [intOf]; omega
            case rel => exact ⟨m + 1, by omega, by go_num, hT, hBq⟩
    · obtain rfl : k = len := by omega
      have hres := unhide hr0 (unhide HT)
      subst hres
      go_wp2
      go_ret
      exact ⟨rfl, hB⟩

theorem refChk10_any (A : Option Addr) (len cap : Nat) (c : Nat → Nat → Int) (b d : Nat → Bool) (n : Int) (w : World) (H : CallOk w A len c b d) :
    Calls Try.prog 10 #[.slice A len cap, .int .i64 n] w fun e w' => e = .returned (.int .i64 (chkI c b d n len)) ∧ Below w.heap.size w w' := by
  by_cases h1 : n < 1 ∨ 8 < n
  · rw [show chkI c b d n len = 2 by unfold chkI; rw [if_pos h1]]
    exact refChk10_bad A len cap n h1 w
  by_cases h2 : 400 < len
  · rw [show chkI c b d n len = 3 by unfold chkI; rw [if_neg h1, if_pos h2]]
    exact refChk10_len A len cap n (by omega) (by omega) h2 w
  exact refChk10_ok A len cap c b d n (by omega) (by omega) (by omega) w H
end Go.Proofs.Ytahfoogcdgjimaa
