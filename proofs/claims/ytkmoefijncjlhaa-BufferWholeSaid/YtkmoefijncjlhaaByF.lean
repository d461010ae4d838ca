/- The walks of package buffer: Give; all of some things. -/
import Derived.Test.YtkmoefijncjlhaaByD
namespace Go.Proofs.Ytkmoefijncjlhaa
set_option linter.unusedVariables false
set_option linter.unusedSimpArgs false
open Go.RowKit

def allB (R : Nat → Bool) : Nat → Bool
  | 0 => true
  | m + 1 => allB R m && R m

theorem allB_no {R : Nat → Bool} {k : Nat} (e : R k = false) : ∀ {m : Nat}, k < m → allB R m = false := fun {m} h => by
  induction m with
  | zero => omega
  | succ m ih =>
    rw [allB]
    by_cases hk : k = m
    · subst hk; rw [e, Bool.and_false]
    · rw [ih (by omega), Bool.false_and]

set_option maxHeartbeats 2000000 in
theorem all_any (g m cap : Nat) (K : Nat → FuncId) (B C : Nat → Array Value) (R : Nat → Bool) (hm : m ≤ 100) (w : World) (hg : g < w.heap.size) (hc : ∀ i, i < m → w.cell? ⟨g, i, none⟩ = some (.func (.func (K i)) (B i) (C i)))
    (he : ∀ i, i < m → ∀ W, (callFunc (K i) (B i ++ C i)).run Try.prog W = .ok (.enter (K i) (B i ++ C i)) W)
    (hr : ∀ i, i < m → ∀ W, Below w.heap.size w W → Calls Try.prog (K i) (B i ++ C i) W fun e w' => e = .returned (.bool (R i)) ∧ Below W.heap.size W w') :
    Calls Try.prog 26 #[.slice (some ⟨g, 0, none⟩) m cap] w fun e w' => e = .returned (.bool (allB R m)) ∧ Below w.heap.size w w' := by
  have HC := hide (fun U (hU : Below w.heap.size w U) i (hi : i < m) => (hU.cell (p := ⟨g, i, none⟩) hg).trans (hc i hi))
  have HR := hide hr
  have HE := hide he
  clear hc hr he
  go_enter Try.func26, Try.ntmps26
  go_wp2
  go_loopw [7] (fun i wr => ∃ k : Nat, k ≤ m ∧ i = .int .i64 k ∧ Hid (allB R k = true) ∧ Below w.heap.size w wr) (fun i _ => m - (intOf i).toNat)
  case atStart => exact ⟨0, Nat.zero_le _, rfl, hide rfl, Below.refl _ _⟩
  case round =>
    obtain ⟨k, hk, rfl, HK, hB⟩ := hrel
    by_cases hlt : k < m
    · have hcell := unhide HC _ hB k hlt
      have hcall := hide (unhide HR k hlt wr hB)
      have b0 : (0 : Int) ≤ (k : Int) := by omega
      have b1 : (k : Int) < (m : Int) := by omega
      have hen := unhide HE k hlt wr
      go_wp2_with fail
      refine (unhide hcall).mono ?_
      rintro e w2 ⟨rfl, hb2⟩
      have hB2 : Below w.heap.size w w2 := hB.trans (hb2.mono hB.size)
      clear hb2 hcell hcall hen
      cases e : R k with
      | true =>
        have HK2 : Hid (allB R (k + 1) = true) := hide (by rw [allB, unhide HK, e]; rfl)
        clear e
        go_wp2
        go_roundw
        case measure => simp [intOf]; omega
        case rel => exact ⟨k + 1, by omega, by go_num, HK2, hB2⟩
      | false =>
        have hres : Hid (allB R m = false) := hide (allB_no e hlt)
        clear e
        go_wp2
        go_ret
        exact ⟨ret_bool (unhide hres).symm, hB2⟩
    · obtain rfl : k = m := by omega
      go_wp2
      go_ret
      exact ⟨ret_bool (unhide HK).symm, hB⟩


theorem give1_any (q7 q6 : Nat) (n e g : Int) (w : World) (h7 : w.cell? ⟨q7, 0, none⟩ = some (.int .i64 n)) (h6 : w.cell? ⟨q6, 0, none⟩ = some (.int .i64 e)) (h62 : w.cell? ⟨q6, 2, none⟩ = some (.int .i64 g)) :
    Calls Try.prog 29 #[.pointer (some ⟨q7, 0, none⟩), .pointer (some ⟨q6, 0, none⟩)] w fun ed w' => ed = .returned (.bool (decide (1 ≤ n ∧ e = 0 ∧ n ≤ g))) ∧ w = w' := by
  generalize hd : decide (1 ≤ n ∧ e = 0 ∧ n ≤ g) = R
  have HD := hide hd
  clear hd
  by_cases h1 : 1 ≤ n
  · by_cases h2 : e = 0
    · have hb : (e == 0) = true := by simpa using h2
      have hr : Hid (R = decide (n ≤ g)) := hide (by rw [← unhide HD]; simp [h1, h2])
      have h2' : Hid (e = 0) := hide h2
      rw [h2] at h6
      clear h2 hb
      go_enter Try.func29, Try.ntmps29
      go_wp2
      go_ret
      exact ⟨ret_bool (unhide hr).symm, rfl⟩
    · have hb : (e == 0) = false := by simpa using h2
      have hr : Hid (R = false) := hide (by rw [← unhide HD]; simp [h2])
      clear h2
      go_enter Try.func29, Try.ntmps29
      go_wp2
      go_ret
      exact ⟨ret_bool (unhide hr).symm, rfl⟩
  · have hr : Hid (R = false) := hide (by rw [← unhide HD]; simp; omega)
    go_enter Try.func29, Try.ntmps29
    go_wp2
    go_ret
    exact ⟨ret_bool (unhide hr).symm, rfl⟩

theorem give3_any (q6 q7 q5 : Nat) (n g l : Int) (w : World) (h6 : w.cell? ⟨q6, 2, none⟩ = some (.int .i64 g)) (h7 : w.cell? ⟨q7, 0, none⟩ = some (.int .i64 n)) (h5 : w.cell? ⟨q5, 2, none⟩ = some (.int .i64 l)) :
    Calls Try.prog 32 #[.pointer (some ⟨q6, 0, none⟩), .pointer (some ⟨q7, 0, none⟩), .pointer (some ⟨q5, 0, none⟩)] w fun ed w' => ed = .returned (.bool (decide (g = n ∨ l = 0))) ∧ w = w' := by
  generalize hd : decide (g = n ∨ l = 0) = R
  have HD := hide hd
  clear hd
  by_cases h1 : g = n
  · have hb : (g == n) = true := by simpa using h1
    have hr : Hid (R = true) := hide (by rw [← unhide HD]; simp [h1])
    clear h1
    go_enter Try.func32, Try.ntmps32
    go_wp2
    go_ret
    exact ⟨ret_bool (unhide hr).symm, rfl⟩
  · have hb : (g == n) = false := by simpa using h1
    have hr : Hid (R = (l == 0)) := hide (by rw [← unhide HD, Bool.eq_iff_iff]; simp [h1])
    clear h1
    go_enter Try.func32, Try.ntmps32
    go_wp2
    go_ret
    exact ⟨ret_bool (unhide hr).symm, rfl⟩

set_option maxHeartbeats 1000000 in
theorem give2_any (t sp : Int) (A : Option Addr) (len cap : Nat) (S : Nat → ByteArray) (hlen : len ≤ 1000) (hS : ∀ i, i < len → (S i).size ≤ 100) (s a l : Int) (q10 q6 : Nat) (ca cg : Int) (hca : ca ≤ 9223372036854775807) (w : World) (H : ShOk w A len S)
    (h0 : w.cell? ⟨q10, 0, none⟩ = some (.int .i64 s)) (h1 : w.cell? ⟨q10, 1, none⟩ = some (.int .i64 a)) (h2 : w.cell? ⟨q10, 2, none⟩ = some (.int .i64 l)) (h3 : w.cell? ⟨q10, 3, none⟩ = some (.int .i64 t)) (h4 : w.cell? ⟨q10, 4, none⟩ = some (.int .i64 sp)) (h5 : w.cell? ⟨q10, 5, none⟩ = some (.slice A len cap))
    (k1 : w.cell? ⟨q6, 1, none⟩ = some (.int .i64 ca)) (k2 : w.cell? ⟨q6, 2, none⟩ = some (.int .i64 cg)) :
    Calls Try.prog 30 #[.pointer (some ⟨q10, 0, none⟩), .pointer (some ⟨q6, 0, none⟩)] w fun ed w' => ed = .returned (.bool (witB t sp len S s ca cg)) ∧ Below w.heap.size w w' := by
  have c := hide (within_any t sp A len cap S hlen hS s a l ca cg hca w H)
  clear H hS
  generalize witB t sp len S s ca cg = R at c ⊢
  go_enter Try.func30, Try.ntmps30
  go_wp2_with fail
  refine (unhide c).mono ?_
  rintro e w2 ⟨rfl, hb2⟩
  go_wp2
  go_ret
  exact ⟨rfl, hb2⟩

/-- What Give asks. -/
noncomputable def gvR (t sp : Int) (len : Nat) (S : Nat → ByteArray) (s a l e ca cg n : Int) : Nat → Bool
  | 0 => rgtB t sp len S s a l
  | 1 => decide (1 ≤ n ∧ e = 0 ∧ n ≤ cg)
  | 2 => witB t sp len S s ca cg
  | _ => decide (cg = n ∨ l = 0)
def gvK : Nat → FuncId
  | 0 => 23
  | 1 => 29
  | 2 => 30
  | _ => 32
def gvX (x : Value) : Nat → Array Value
  | 0 => #[x]
  | _ => #[]
def gvC (q5 q6 q7 q10 : Nat) : Nat → Array Value
  | 0 => #[]
  | 1 => #[.pointer (some ⟨q7, 0, none⟩), .pointer (some ⟨q6, 0, none⟩)]
  | 2 => #[.pointer (some ⟨q10, 0, none⟩), .pointer (some ⟨q6, 0, none⟩)]
  | _ => #[.pointer (some ⟨q6, 0, none⟩), .pointer (some ⟨q7, 0, none⟩), .pointer (some ⟨q5, 0, none⟩)]

set_option maxHeartbeats 2000000 in
theorem giveAll_any (t sp : Int) (A : Option Addr) (len cap : Nat) (S : Nat → ByteArray) (hlen : len ≤ 1000) (hS : ∀ i, i < len → (S i).size ≤ 100) (s a l e ca cg n : Int) (ha : a ≤ 9223372036854775807) (hca : ca ≤ 9223372036854775807) (g q5 q6 q7 q10 : Nat) (w : World) (H : ShOk w A len S)
    (hg : g < w.heap.size) (hq5 : q5 < w.heap.size) (hq6 : q6 < w.heap.size) (hq7 : q7 < w.heap.size) (hq10 : q10 < w.heap.size)
    (hc : ∀ i, i < 4 → w.cell? ⟨g, i, none⟩ = some (.func (.func (gvK i)) (gvX (.agg #[.int .i64 s, .int .i64 a, .int .i64 l, .int .i64 t, .int .i64 sp, .slice A len cap]) i) (gvC q5 q6 q7 q10 i)))
    (h0 : w.cell? ⟨q10, 0, none⟩ = some (.int .i64 s)) (h1 : w.cell? ⟨q10, 1, none⟩ = some (.int .i64 a)) (h2 : w.cell? ⟨q10, 2, none⟩ = some (.int .i64 l)) (h3 : w.cell? ⟨q10, 3, none⟩ = some (.int .i64 t)) (h4 : w.cell? ⟨q10, 4, none⟩ = some (.int .i64 sp)) (h5 : w.cell? ⟨q10, 5, none⟩ = some (.slice A len cap))
    (k0 : w.cell? ⟨q6, 0, none⟩ = some (.int .i64 e)) (k1 : w.cell? ⟨q6, 1, none⟩ = some (.int .i64 ca)) (k2 : w.cell? ⟨q6, 2, none⟩ = some (.int .i64 cg))
    (m0 : w.cell? ⟨q7, 0, none⟩ = some (.int .i64 n)) (p2 : w.cell? ⟨q5, 2, none⟩ = some (.int .i64 l)) :
    Calls Try.prog 26 #[.slice (some ⟨g, 0, none⟩) 4 4] w fun ed w' => ed = .returned (.bool (allB (gvR t sp len S s a l e ca cg n) 4)) ∧ Below w.heap.size w w' := by
  refine all_any g 4 4 gvK (gvX (.agg #[.int .i64 s, .int .i64 a, .int .i64 l, .int .i64 t, .int .i64 sp, .slice A len cap])) (gvC q5 q6 q7 q10) (gvR t sp len S s a l e ca cg n) (by omega) w hg hc ?_ ?_
  · intro i hi W
    match i, hi with
    | 0, _ => rfl
    | 1, _ => rfl
    | 2, _ => rfl
    | 3, _ => rfl
  · intro i hi W hW
    have e10 : ∀ j v, w.cell? ⟨q10, j, none⟩ = some v → W.cell? ⟨q10, j, none⟩ = some v := fun j v h => (hW.cell (p := ⟨q10, j, none⟩) hq10).trans h
    have e6 : ∀ j v, w.cell? ⟨q6, j, none⟩ = some v → W.cell? ⟨q6, j, none⟩ = some v := fun j v h => (hW.cell (p := ⟨q6, j, none⟩) hq6).trans h
    have e7 : ∀ j v, w.cell? ⟨q7, j, none⟩ = some v → W.cell? ⟨q7, j, none⟩ = some v := fun j v h => (hW.cell (p := ⟨q7, j, none⟩) hq7).trans h
    have e5 : ∀ j v, w.cell? ⟨q5, j, none⟩ = some v → W.cell? ⟨q5, j, none⟩ = some v := fun j v h => (hW.cell (p := ⟨q5, j, none⟩) hq5).trans h
    match i, hi with
    | 0, _ => exact lentRight_any t sp A len cap S hlen hS s a l ha W (H.keep hW)
    | 1, _ => exact (give1_any q7 q6 n e cg W (e7 _ _ m0) (e6 _ _ k0) (e6 _ _ k2)).mono fun _ _ ⟨h, hw⟩ => ⟨h, hw ▸ Below.refl _ _⟩
    | 2, _ => exact give2_any t sp A len cap S hlen hS s a l q10 q6 ca cg hca W (H.keep hW) (e10 _ _ h0) (e10 _ _ h1) (e10 _ _ h2) (e10 _ _ h3) (e10 _ _ h4) (e10 _ _ h5) (e6 _ _ k1) (e6 _ _ k2)
    | 3, _ => exact (give3_any q6 q7 q5 n cg l W (e6 _ _ k2) (e7 _ _ m0) (e5 _ _ p2)).mono fun _ _ ⟨h, hw⟩ => ⟨h, hw ▸ Below.refl _ _⟩
end Go.Proofs.Ytkmoefijncjlhaa
