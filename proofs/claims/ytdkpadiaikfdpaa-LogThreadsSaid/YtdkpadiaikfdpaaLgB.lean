/- The walks of package log: a thread's steps, a word's, the last that stores it; the same of its reference. -/
import Derived.Test.YtdkpadiaikfdpaaLgA
import Derived.Deep.QuietTactic
import Derived.BigQuiet
namespace Go.Proofs.Ytdkpadiaikfdpaa
set_option linter.unusedVariables false
set_option linter.unusedSimpArgs false
open Go.RowKit

def pOf (st : Nat → Nat → Int) (t : Int) (i : Nat) : Bool := decide (st i 0 = t)
def pTo (st : Nat → Nat → Int) (a : Int) (i : Nat) : Bool := decide (st i 2 = a ∧ 0 < st i 1 ∧ st i 1 ≤ 3)
def pLa (st : Nat → Nat → Int) (a : Int) (i : Nat) : Bool := decide (st i 2 = a) && stoB (st i 1) (st i 3) (st i 5)

set_option maxHeartbeats 1000000 in
theorem of1_any (q : Nat) (t k a o v an x : Int) (w : World) (hq : w.cell? ⟨q, 0, none⟩ = some (.int .i64 x)) (hqs : q < w.heap.size) :
    Calls Try.prog 39 #[.agg #[.int .i64 t, .int .i64 k, .int .i64 a, .int .u64 o, .int .u64 v, .int .u64 an], .pointer (some ⟨q, 0, none⟩)] w fun e w' => e = .returned (.bool (decide (t = x))) ∧ Below w.heap.size w w' := by
  go_enter Try.func39, Try.ntmps39
  go_wp2
  go_ret
  exact ⟨ret_bool (by simp [Bool.beq_eq_decide_eq]), by repeat (first | exact Below.refl _ _ | assumption | refine Below.alloc ?_ (by first | (simp; done) | (simp; omega) | omega) _ | refine Below.setCell ?_ (by first | (simp; done) | (simp; omega) | omega) _ | apply Below.drew | refine Below.trans ?_ (Below.mono (by assumption) (by first | (simp; done) | (simp; omega) | omega)))⟩

set_option maxHeartbeats 1000000 in
theorem touches1_any (q : Nat) (t k a o v an x : Int) (w : World) (hq : w.cell? ⟨q, 0, none⟩ = some (.int .i64 x)) (hqs : q < w.heap.size) :
    Calls Try.prog 40 #[.agg #[.int .i64 t, .int .i64 k, .int .i64 a, .int .u64 o, .int .u64 v, .int .u64 an], .pointer (some ⟨q, 0, none⟩)] w fun e w' => e = .returned (.bool (decide (a = x ∧ 0 < k ∧ k ≤ 3))) ∧ Below w.heap.size w w' := by
  by_cases h1 : a = x
  · subst h1
    by_cases h2 : 0 < k
    · go_enter Try.func40, Try.ntmps40
      go_wp2
      go_ret
      exact ⟨ret_bool (by simp [h2]), by repeat (first | exact Below.refl _ _ | assumption | refine Below.alloc ?_ (by first | (simp; done) | (simp; omega) | omega) _ | refine Below.setCell ?_ (by first | (simp; done) | (simp; omega) | omega) _ | apply Below.drew | refine Below.trans ?_ (Below.mono (by assumption) (by first | (simp; done) | (simp; omega) | omega)))⟩
    · go_enter Try.func40, Try.ntmps40
      go_wp2
      go_ret
      exact ⟨ret_bool (by simp [h2]; try omega), by repeat (first | exact Below.refl _ _ | assumption | refine Below.alloc ?_ (by first | (simp; done) | (simp; omega) | omega) _ | refine Below.setCell ?_ (by first | (simp; done) | (simp; omega) | omega) _ | apply Below.drew | refine Below.trans ?_ (Below.mono (by assumption) (by first | (simp; done) | (simp; omega) | omega)))⟩
  · have h1b : (a == x) = false := by simpa using h1
    go_enter Try.func40, Try.ntmps40
    go_wp2
    go_ret
    exact ⟨ret_bool (by simp [h1]), by repeat (first | exact Below.refl _ _ | assumption | refine Below.alloc ?_ (by first | (simp; done) | (simp; omega) | omega) _ | refine Below.setCell ?_ (by first | (simp; done) | (simp; omega) | omega) _ | apply Below.drew | refine Below.trans ?_ (Below.mono (by assumption) (by first | (simp; done) | (simp; omega) | omega)))⟩

set_option maxHeartbeats 1000000 in
theorem last1_any (q : Nat) (t k a o v an x : Int) (w : World) (hq : w.cell? ⟨q, 0, none⟩ = some (.int .i64 x)) (hqs : q < w.heap.size) :
    Calls Try.prog 37 #[.agg #[.int .i64 t, .int .i64 k, .int .i64 a, .int .u64 o, .int .u64 v, .int .u64 an], .pointer (some ⟨q, 0, none⟩)] w fun e w' => e = .returned (.bool (decide (a = x) && stoB k o an)) ∧ Below w.heap.size w w' := by
  by_cases h1 : a = x
  · subst h1
    go_enter Try.func37, Try.ntmps37
    go_wp2_with (go_at_call 34; refine (stores_any _ _ _ _ _ _ _).mono ?_; rintro e w1 ⟨rfl, hb1⟩; have hz1 := hb1.size; simp only [World.size_alloc] at hz1)
    go_ret
    exact ⟨ret_bool (by simp), by repeat (first | exact Below.refl _ _ | assumption | refine Below.alloc ?_ (by first | (simp; done) | (simp; omega) | omega) _ | refine Below.setCell ?_ (by first | (simp; done) | (simp; omega) | omega) _ | apply Below.drew | refine Below.trans ?_ (Below.mono (by assumption) (by first | (simp; done) | (simp; omega) | omega)))⟩
  · have h1b : (a == x) = false := by simpa using h1
    go_enter Try.func37, Try.ntmps37
    go_wp2_with (go_at_call 34; refine (stores_any _ _ _ _ _ _ _).mono ?_; rintro e w1 ⟨rfl, hb1⟩; have hz1 := hb1.size; simp only [World.size_alloc] at hz1)
    go_ret
    exact ⟨ret_bool (by simp [h1]), by repeat (first | exact Below.refl _ _ | assumption | refine Below.alloc ?_ (by first | (simp; done) | (simp; omega) | omega) _ | refine Below.setCell ?_ (by first | (simp; done) | (simp; omega) | omega) _ | apply Below.drew | refine Below.trans ?_ (Below.mono (by assumption) (by first | (simp; done) | (simp; omega) | omega)))⟩

set_option maxHeartbeats 2000000 in
theorem of_any (A : Option Addr) (len cap : Nat) (st : Nat → Nat → Int) (x : Int) (hlen : len ≤ 1000) (w : World) (H : StOk w A len st) :
    Calls Try.prog 21 #[.slice A len cap, .int .i64 x] w fun e w' => ∃ A' c', e = .returned (.slice A' (plc (pOf st x) len).length c') ∧ RdL w' .i64 A' (plc (pOf st x) len) ∧ Below w.heap.size w w' := by
  have c := places_of w.heap.size A len cap st (pOf st x) hlen (w.alloc (.cells #[.int .i64 x] 3)) (H.keep ((Below.refl _ _).alloc (Nat.le_refl _) _))
    (fun W i hi hB => of1_any w.heap.size _ _ _ _ _ _ x W ((hB.cell (p := ⟨w.heap.size, 0, none⟩) (by simp)).trans (by go_simp)) (Nat.lt_of_lt_of_le (by simp) hB.size))
  clear H
  go_enter Try.func21, Try.ntmps21
  go_wp2_with fail
  refine c.mono ?_
  rintro e w1 ⟨v, rfl, ho, hb⟩
  clear c
  obtain ⟨A', c', rfl, hr⟩ := RdL.of_own ho
  have HR := hide hr
  have HB := hide hb
  clear hr hb ho
  go_wp2
  go_ret
  exact ⟨A', c', rfl, unhide HR, by have hb := unhide HB; repeat (first | exact Below.refl _ _ | assumption | refine Below.alloc ?_ (by first | (simp; done) | (simp; omega) | omega) _ | refine Below.setCell ?_ (by first | (simp; done) | (simp; omega) | omega) _ | apply Below.drew | refine Below.trans ?_ (Below.mono (by assumption) (by first | (simp; done) | (simp; omega) | omega)))⟩
set_option maxHeartbeats 2000000 in
theorem touches_any (A : Option Addr) (len cap : Nat) (st : Nat → Nat → Int) (x : Int) (hlen : len ≤ 1000) (w : World) (H : StOk w A len st) :
    Calls Try.prog 23 #[.slice A len cap, .int .i64 x] w fun e w' => ∃ A' c', e = .returned (.slice A' (plc (pTo st x) len).length c') ∧ RdL w' .i64 A' (plc (pTo st x) len) ∧ Below w.heap.size w w' := by
  have c := places_touches w.heap.size A len cap st (pTo st x) hlen (w.alloc (.cells #[.int .i64 x] 3)) (H.keep ((Below.refl _ _).alloc (Nat.le_refl _) _))
    (fun W i hi hB => touches1_any w.heap.size _ _ _ _ _ _ x W ((hB.cell (p := ⟨w.heap.size, 0, none⟩) (by simp)).trans (by go_simp)) (Nat.lt_of_lt_of_le (by simp) hB.size))
  clear H
  go_enter Try.func23, Try.ntmps23
  go_wp2_with fail
  refine c.mono ?_
  rintro e w1 ⟨v, rfl, ho, hb⟩
  clear c
  obtain ⟨A', c', rfl, hr⟩ := RdL.of_own ho
  have HR := hide hr
  have HB := hide hb
  clear hr hb ho
  go_wp2
  go_ret
  exact ⟨A', c', rfl, unhide HR, by have hb := unhide HB; repeat (first | exact Below.refl _ _ | assumption | refine Below.alloc ?_ (by first | (simp; done) | (simp; omega) | omega) _ | refine Below.setCell ?_ (by first | (simp; done) | (simp; omega) | omega) _ | apply Below.drew | refine Below.trans ?_ (Below.mono (by assumption) (by first | (simp; done) | (simp; omega) | omega)))⟩

/-- The last place below n at which it is so, or -1. -/
def lst (p : Nat → Bool) : Nat → Int
  | 0 => -1
  | n + 1 => if p n then (n : Int) else lst p n

theorem lst_lt (p : Nat → Bool) : ∀ n, -1 ≤ lst p n ∧ lst p n < n
  | 0 => ⟨by simp [lst], by simp [lst]⟩
  | n + 1 => by
    have := lst_lt p n
    unfold lst
    split <;> omega

theorem plc_lst (p : Nat → Bool) : ∀ n, (plc p n = [] ∧ lst p n = -1) ∨ (0 < (plc p n).length ∧ 0 ≤ lst p n ∧ (plc p n).getD ((plc p n).length - 1) 0 = lst p n)
  | 0 => .inl ⟨rfl, rfl⟩
  | n + 1 => by
    unfold plc lst
    cases hp : p n with
    | false => simpa using plc_lst p n
    | true => simp

set_option maxHeartbeats 2000000 in
theorem last_any (A : Option Addr) (len cap : Nat) (st : Nat → Nat → Int) (x : Int) (hlen : len ≤ 1000) (w : World) (H : StOk w A len st) :
    Calls Try.prog 19 #[.slice A len cap, .int .i64 x] w fun e w' => e = .returned (.tuple #[.int .i64 (max 0 (lst (pLa st x) len)), .bool (decide (0 ≤ lst (pLa st x) len))]) ∧ Below w.heap.size w w' := by
  have c := places_last w.heap.size A len cap st (pLa st x) hlen (w.alloc (.cells #[.int .i64 x] 3)) (H.keep ((Below.refl _ _).alloc (Nat.le_refl _) _))
    (fun W i hi hB => last1_any w.heap.size _ _ _ _ _ _ x W ((hB.cell (p := ⟨w.heap.size, 0, none⟩) (by simp)).trans (by go_simp)) (Nat.lt_of_lt_of_le (by simp) hB.size))
  clear H
  have hL := plc_len (pLa st x) len
  have hP := plc_lst (pLa st x) len
  generalize plc (pLa st x) len = L at *
  generalize lst (pLa st x) len = z at *
  go_enter Try.func19, Try.ntmps19
  go_wp2_with fail
  refine c.mono ?_
  rintro e w1 ⟨v, rfl, ho, hb⟩
  clear c
  obtain ⟨A', c', rfl, hr⟩ := RdL.of_own ho
  have HB := hide hb
  clear hb ho
  rcases hP with ⟨rfl, rfl⟩ | ⟨h1, h2, h3⟩
  · clear hr hL
    go_wp2
    go_ret2
    exact ⟨rfl, by have hb := unhide HB; repeat (first | exact Below.refl _ _ | assumption | refine Below.alloc ?_ (by first | (simp; done) | (simp; omega) | omega) _ | refine Below.setCell ?_ (by first | (simp; done) | (simp; omega) | omega) _ | apply Below.drew | refine Below.trans ?_ (Below.mono (by assumption) (by first | (simp; done) | (simp; omega) | omega)))⟩
  · obtain ⟨b, o, rfl, hbs, hc⟩ := hr h1
    have hcc := hc (L.length - 1) (by omega)
    rw [h3] at hcc
    obtain ⟨m, hm⟩ : ∃ m, L.length = m + 1 := ⟨L.length - 1, by omega⟩
    rw [hm] at hcc hL ⊢
    have hmm := hide hm
    have H3 := hide h3
    have e1 : max 0 z = z := by omega
    have e2 : decide (0 ≤ z) = true := by simpa using h2
    have E1 := hide e1
    have E2 := hide e2
    have b0 : (0 : Int) ≤ (m : Int) := by omega
    have n0 : ¬ ((m : Int) + 1 = 0) := by omega
    have nb : ((m : Int) + 1 == 0) = false := by simpa using n0
    rw [show m + 1 - 1 = m from rfl] at hcc
    clear hc hm h3 h1 hr e1 e2
    go_wp2
    go_ret2
    exact ⟨by rw [unhide E1, unhide E2]; rfl, by have hb := unhide HB; repeat (first | exact Below.refl _ _ | assumption | refine Below.alloc ?_ (by first | (simp; done) | (simp; omega) | omega) _ | refine Below.setCell ?_ (by first | (simp; done) | (simp; omega) | omega) _ | apply Below.drew | refine Below.trans ?_ (Below.mono (by assumption) (by first | (simp; done) | (simp; omega) | omega)))⟩

set_option maxHeartbeats 1000000 in
theorem refStores_any (t k a o v an x : Int) (w : World) :
    Calls Try.prog 38 #[.agg #[.int .i64 t, .int .i64 k, .int .i64 a, .int .u64 o, .int .u64 v, .int .u64 an], .int .i64 x] w fun e w' => e = .returned (.bool (decide (a = x) && stoB k o an)) ∧ Below w.heap.size w w' := by
  by_cases h1 : a = x
  · subst h1
    by_cases h2 : k = 2
    · subst h2
      go_enter Try.func38, Try.ntmps38
      go_wp2
      go_ret
      exact ⟨ret_bool (by simp [stoB]), by repeat (first | exact Below.refl _ _ | assumption | refine Below.alloc ?_ (by first | (simp; done) | (simp; omega) | omega) _ | refine Below.setCell ?_ (by first | (simp; done) | (simp; omega) | omega) _ | apply Below.drew | refine Below.trans ?_ (Below.mono (by assumption) (by first | (simp; done) | (simp; omega) | omega)))⟩
    · have h2b : (k == 2) = false := by simpa using h2
      by_cases h3 : k = 3
      · subst h3
        go_enter Try.func38, Try.ntmps38
        go_wp2
        all_goals go_ret
        all_goals exact ⟨ret_bool (by simp [stoB, Bool.beq_eq_decide_eq]), by repeat (first | exact Below.refl _ _ | assumption | refine Below.alloc ?_ (by first | (simp; done) | (simp; omega) | omega) _ | refine Below.setCell ?_ (by first | (simp; done) | (simp; omega) | omega) _ | apply Below.drew | refine Below.trans ?_ (Below.mono (by assumption) (by first | (simp; done) | (simp; omega) | omega)))⟩
      · have h3b : (k == 3) = false := by simpa using h3
        go_enter Try.func38, Try.ntmps38
        go_wp2
        go_ret
        exact ⟨ret_bool (by simp [stoB, h2, h3]), by repeat (first | exact Below.refl _ _ | assumption | refine Below.alloc ?_ (by first | (simp; done) | (simp; omega) | omega) _ | refine Below.setCell ?_ (by first | (simp; done) | (simp; omega) | omega) _ | apply Below.drew | refine Below.trans ?_ (Below.mono (by assumption) (by first | (simp; done) | (simp; omega) | omega)))⟩
  · have h1b : (a == x) = false := by simpa using h1
    go_enter Try.func38, Try.ntmps38
    go_wp2
    go_ret
    exact ⟨ret_bool (by simp [h1]), by repeat (first | exact Below.refl _ _ | assumption | refine Below.alloc ?_ (by first | (simp; done) | (simp; omega) | omega) _ | refine Below.setCell ?_ (by first | (simp; done) | (simp; omega) | omega) _ | apply Below.drew | refine Below.trans ?_ (Below.mono (by assumption) (by first | (simp; done) | (simp; omega) | omega)))⟩

set_option maxHeartbeats 2000000 in
theorem refLast_any (A : Option Addr) (len cap : Nat) (st : Nat → Nat → Int) (x : Int) (hlen : len ≤ 1000) (w : World) (H : StOk w A len st) :
    Calls Try.prog 20 #[.slice A len cap, .int .i64 x] w fun e w' => e = .returned (.int .i64 (lst (pLa st x) len)) ∧ Below w.heap.size w w' := by
  have HH := hide H
  clear H
  go_enter Try.func20, Try.ntmps20
  go_wp2
  go_loopw [5, 6] (fun v i wr => ∃ k : Nat, k ≤ len ∧ i = .int .i64 k ∧ v = .int .i64 (lst (pLa st x) k) ∧ Below w.heap.size w wr) (fun _ i _ => len - (intOf i).toNat)
  case atStart => exact ⟨0, Nat.zero_le _, rfl, rfl, Below.refl _ _⟩
  case round =>
    obtain ⟨k, hk, rfl, rfl, hB⟩ := hrel
    by_cases hlt : k < len
    · obtain ⟨b, o, rfl, hb, hc⟩ := (unhide HH).keep hB (by omega)
      obtain ⟨c0, c1, c2, c3, c4, c5⟩ := hc k hlt
      have b0 : (0 : Int) ≤ (k : Int) := by omega
      have b1 : (k : Int) < (len : Int) := by omega
      have hsz := hB.size
      clear hc
      have hq := refStores_any (st k 0) (st k 1) (st k 2) (st k 3) (st k 4) (st k 5) x
      cases hp : pLa st x k with
      | false =>
        rw [show (decide (st k 2 = x) && stoB (st k 1) (st k 3) (st k 5)) = false from hp] at hq
        go_wp2_with (go_at_call 38; refine (hq _).mono ?_; clear hq; rintro e w1 ⟨rfl, hb1⟩)
        go_roundw
        case measure => simp [intOf]; omega
        case rel => exact ⟨k + 1, by omega, by go_num, by rw [lst, hp]; rfl, by repeat (first | exact Below.refl _ _ | assumption | refine Below.alloc ?_ (by first | (simp; done) | (simp; omega) | omega) _ | refine Below.setCell ?_ (by first | (simp; done) | (simp; omega) | omega) _ | apply Below.drew | refine Below.trans ?_ (Below.mono (by assumption) (by first | (simp; done) | (simp; omega) | omega)))⟩
      | true =>
        rw [show (decide (st k 2 = x) && stoB (st k 1) (st k 3) (st k 5)) = true from hp] at hq
        go_wp2_with (go_at_call 38; refine (hq _).mono ?_; clear hq; rintro e w1 ⟨rfl, hb1⟩)
        go_roundw
        case measure => simp [intOf]; omega
        case rel => exact ⟨k + 1, by omega, by go_num, by rw [lst, hp]; rfl, by repeat (first | exact Below.refl _ _ | assumption | refine Below.alloc ?_ (by first | (simp; done) | (simp; omega) | omega) _ | refine Below.setCell ?_ (by first | (simp; done) | (simp; omega) | omega) _ | apply Below.drew | refine Below.trans ?_ (Below.mono (by assumption) (by first | (simp; done) | (simp; omega) | omega)))⟩
    · obtain rfl : k = len := by omega
      go_wp2
      go_ret
      exact ⟨rfl, hB⟩

theorem num13_any (x : Int) (w : World) : Calls Try.prog 15 #[.int .i64 x] w fun e w' => e = .returned (.int .i64 x) ∧ w = w' := by
  go_enter Try.func15, Try.ntmps15
  go_wp2
  go_ret
  exact ⟨rfl, rfl⟩

theorem few13_any (A B : Option Addr) (n c m d : Nat) (hn : n ≤ 9223372036854775807) (hm : m ≤ 9223372036854775807) (w : World) : Calls Try.prog 9 #[.slice A n c, .slice B m d] w fun e w' => e = .returned (.bool (decide (n ≤ 200 ∧ m ≤ 100))) ∧ w = w' := by
  by_cases h1 : n ≤ 200
  · by_cases h2 : m ≤ 100
    · go_enter Try.func9, Try.ntmps9
      go_wp2
      go_ret
      exact ⟨ret_bool (by first | (simp; done) | (rw [Bool.eq_iff_iff]; simp; omega) | (simp; omega)), rfl⟩
    · go_enter Try.func9, Try.ntmps9
      go_wp2
      go_ret
      exact ⟨ret_bool (by first | (simp; done) | (rw [Bool.eq_iff_iff]; simp; omega) | (simp; omega)), rfl⟩
  · go_enter Try.func9, Try.ntmps9
    go_wp2
    go_ret
    exact ⟨ret_bool (by first | (simp; done) | (rw [Bool.eq_iff_iff]; simp; omega) | (simp; omega)), rfl⟩

set_option maxHeartbeats 2000000 in
theorem same13_any (A B : Option Addr) (c d : Nat) (L M : List Int) (hn : L.length ≤ 1000) (hm : M.length ≤ 1000) (w : World) (H1 : RdL w .i64 A L) (H2 : RdL w .i64 B M) :
    Calls Try.prog 18 #[.slice A L.length c, .slice B M.length d] w fun e w' => e = .returned (.bool (decide (L = M))) ∧ Below w.heap.size w w' := by
  have HH1 := hide H1
  have HH2 := hide H2
  clear H1 H2
  by_cases hlm : L.length = M.length
  · have HQ := hide hlm
    rw [← hlm]
    rw [← hlm] at hm
    have hnb : ((L.length : Int) != (L.length : Int)) = false := by simp
    clear hlm
    go_enter Try.func18, Try.ntmps18
    go_wp2
    go_loopw [5] (fun i wr => ∃ k : Nat, k ≤ L.length ∧ i = .int .i64 k ∧ Hid (∀ j, j < k → L.getD j 0 = M.getD j 0) ∧ ∃ m, wr = w.drewN m) (fun i _ => L.length - (intOf i).toNat)
    case atStart => exact ⟨0, Nat.zero_le _, rfl, hide (fun j hj => absurd hj (by omega)), 0, rfl⟩
    case round =>
      obtain ⟨k, hk, rfl, HE, m, rfl⟩ := hrel
      by_cases hlt : k < L.length
      · obtain ⟨b1, o1, rfl, hb1, hc1⟩ := unhide HH1 (by omega)
        obtain ⟨b2, o2, rfl, hb2, hc2⟩ := unhide HH2 (by rw [← unhide HQ]; omega)
        have c1 := hc1 k hlt
        have c2 := hc2 k (by rw [← unhide HQ]; omega)
        have b0 : (0 : Int) ≤ (k : Int) := by omega
        have b1 : (k : Int) < (L.length : Int) := by omega
        clear hc1 hc2
        by_cases hx : L.getD k 0 = M.getD k 0
        · have HX := hide hx
          rw [← hx] at c2
          clear hx
          go_wp2
          go_quiet (fail)
          all_goals go_wp2
          go_roundw
          case measure => simp [intOf]; omega
          case rel => exact ⟨k + 1, by omega, by go_num, hide (fun j hj => by
            by_cases e : j = k
            · rw [e]; exact unhide HX
            · exact unhide HE j (by omega)), _, rfl⟩
        · have hne : (L.getD k 0 != M.getD k 0) = true := by simpa using hx
          have HX := hide hx
          clear hx
          generalize L.getD k 0 = u at c1 hne
          generalize M.getD k 0 = v at c2 hne
          go_wp2
          go_quiet (fail)
          all_goals go_wp2
          go_ret
          exact ⟨ret_bool (by simp only [Bool.false_eq, decide_eq_false_iff_not]; rintro rfl; exact unhide HX rfl), below_drewN (below_drewN (Below.refl _ _) _) _⟩
      · obtain rfl : k = L.length := by omega
        go_wp2
        go_ret
        refine ⟨ret_bool ?_, below_drewN (Below.refl _ _) _⟩
        simp only [Bool.true_eq, decide_eq_true_eq]
        refine List.ext_getElem (unhide HQ) (fun j h1 h2 => ?_)
        have := unhide HE j h1
        simpa [List.getD, h1, h2] using this
  · have hnb : ((L.length : Int) != (M.length : Int)) = true := by simp; omega
    go_enter Try.func18, Try.ntmps18
    go_wp2
    go_ret
    exact ⟨ret_bool (by simp only [Bool.false_eq, decide_eq_false_iff_not]; rintro rfl; exact hlm rfl), Below.refl _ _⟩

set_option maxHeartbeats 2000000 in
theorem refOf_any (A : Option Addr) (len cap : Nat) (st : Nat → Nat → Int) (x : Int) (hlen : len ≤ 1000) (w : World) (H : StOk w A len st) :
    Calls Try.prog 22 #[.slice A len cap, .int .i64 x] w fun e w' => ∃ A' c', e = .returned (.slice A' (plc (pOf st x) len).length c') ∧ RdL w' .i64 A' (plc (pOf st x) len) ∧ Below w.heap.size w w' := by
  have HH := hide H
  clear H
  obtain ⟨i0, hi, hz0, hz1, hz2⟩ := info_parts info_int13
  go_enter Try.func22, Try.ntmps22
  go_wp2
  go_loopw [5, 6] (fun v i wr => ∃ k : Nat, k ≤ len ∧ i = .int .i64 k ∧ Hid (wr.ownsRow w.heap.size 3 1 v (plc (pOf st x) k).length ((plc (pOf st x) k).map (.int .i64))) ∧ Below w.heap.size w wr) (fun _ i _ => len - (intOf i).toNat)
  case atStart => exact ⟨0, Nat.zero_le _, rfl, hide (World.ownsRow_nil _ _ _ _), Below.refl _ _⟩
  case round =>
    obtain ⟨k, hk, rfl, HO, hB⟩ := hrel
    by_cases hlt : k < len
    · obtain ⟨b, o, rfl, hb, hc⟩ := (unhide HH).keep hB (by omega)
      obtain ⟨c0, c1, c2, c3, c4, c5⟩ := hc k hlt
      have b0 : (0 : Int) ≤ (k : Int) := by omega
      have b1 : (k : Int) < (len : Int) := by omega
      have hsz := hB.size
      have hl := plc_len (pOf st x) k
      clear hc
      by_cases h1 : st k 0 = x
      · have hp : pOf st x k = true := by simpa [pOf] using h1
        have HP := hide hp
        have h1b : (st k 0 == x) = true := by simpa using h1
        clear h1 hp
        (go_wp2_with (at_builtin; refine wpList_append_own _ rfl (.tmp 20) (.tmp 22) _ rfl w.heap.size 3 i0 (.int .i64 0) 1 8 Try.underlying31 hi hz0 hz1 hz2 rfl (by decide) _ _ _ rfl ((unhide HO).alloc _) ⟨wr.heap.size, 0, none⟩ 1 1 [.int .i64 (k : Int)] rfl rfl ?c1 ?c2 ?c3 ?c4 ?c5 ?_)); (case c1 => exact one_new _ _ _); (case c2 => simp [Value.oneCell']); (case c3 => simp only [maxLen]; omega); (case c4 => omega); (case c5 => simp; omega); (intro v' w3 hown' hgrow _); (have HO' := hide hown'); (have HG' := hide hgrow); (clear hown' hgrow)
        go_wp2
        go_roundw
        case measure => simp [intOf]; omega
        case rel => exact ⟨k + 1, by omega, by go_num, hide (by rw [plc, unhide HP, if_pos rfl]; simpa using unhide HO'), (hB.alloc hsz _).grown (unhide HG') (by simp; omega) (fun r hr => ((unhide HO).lt r hr).1)⟩
      · have hp : pOf st x k = false := by simpa [pOf] using h1
        have HP := hide hp
        have h1b : (st k 0 == x) = false := by simpa using h1
        clear h1 hp
        go_wp2
        go_roundw
        case measure => simp [intOf]; omega
        case rel => exact ⟨k + 1, by omega, by go_num, hide (by rw [plc, unhide HP, if_neg (by simp)]; exact unhide HO), hB⟩
    · obtain rfl : k = len := by omega
      obtain ⟨A', c', rfl, hr⟩ := RdL.of_own (unhide HO)
      have HR := hide hr
      clear hr
      go_wp2
      go_ret
      exact ⟨A', c', rfl, unhide HR, hB⟩

set_option maxHeartbeats 2000000 in
theorem refTouches_any (A : Option Addr) (len cap : Nat) (st : Nat → Nat → Int) (x : Int) (hlen : len ≤ 1000) (w : World) (H : StOk w A len st) :
    Calls Try.prog 24 #[.slice A len cap, .int .i64 x] w fun e w' => ∃ A' c', e = .returned (.slice A' (plc (pTo st x) len).length c') ∧ RdL w' .i64 A' (plc (pTo st x) len) ∧ Below w.heap.size w w' := by
  have HH := hide H
  clear H
  obtain ⟨i0, hi, hz0, hz1, hz2⟩ := info_parts info_int13
  go_enter Try.func24, Try.ntmps24
  go_wp2
  go_loopw [5, 6] (fun v i wr => ∃ k : Nat, k ≤ len ∧ i = .int .i64 k ∧ Hid (wr.ownsRow w.heap.size 3 1 v (plc (pTo st x) k).length ((plc (pTo st x) k).map (.int .i64))) ∧ Below w.heap.size w wr) (fun _ i _ => len - (intOf i).toNat)
  case atStart => exact ⟨0, Nat.zero_le _, rfl, hide (World.ownsRow_nil _ _ _ _), Below.refl _ _⟩
  case round =>
    obtain ⟨k, hk, rfl, HO, hB⟩ := hrel
    by_cases hlt : k < len
    · obtain ⟨b, o, rfl, hb, hc⟩ := (unhide HH).keep hB (by omega)
      obtain ⟨c0, c1, c2, c3, c4, c5⟩ := hc k hlt
      have b0 : (0 : Int) ≤ (k : Int) := by omega
      have b1 : (k : Int) < (len : Int) := by omega
      have hsz := hB.size
      have hl := plc_len (pTo st x) k
      clear hc
      cases hp : pTo st x k with
      | true =>
        have HP := hide hp
        obtain ⟨h1, h2, h3⟩ : st k 2 = x ∧ 0 < st k 1 ∧ st k 1 ≤ 3 := by simpa [pTo] using hp
        have h1b : (st k 2 == x) = true := by simpa using h1
        have h2b : (1 : Int) ≤ st k 1 := by omega
        clear h1 hp
        (go_wp2_with (at_builtin; refine wpList_append_own _ rfl (.tmp 36) (.tmp 38) _ rfl w.heap.size 3 i0 (.int .i64 0) 1 8 Try.underlying31 hi hz0 hz1 hz2 rfl (by decide) _ _ _ rfl ((unhide HO).alloc _) ⟨wr.heap.size, 0, none⟩ 1 1 [.int .i64 (k : Int)] rfl rfl ?c1 ?c2 ?c3 ?c4 ?c5 ?_)); (case c1 => exact one_new _ _ _); (case c2 => simp [Value.oneCell']); (case c3 => simp only [maxLen]; omega); (case c4 => omega); (case c5 => simp; omega); (intro v' w3 hown' hgrow _); (have HO' := hide hown'); (have HG' := hide hgrow); (clear hown' hgrow)
        go_wp2
        go_roundw
        case measure => simp [intOf]; omega
        case rel => exact ⟨k + 1, by omega, by go_num, hide (by rw [plc, unhide HP, if_pos rfl]; simpa using unhide HO'), (hB.alloc hsz _).grown (unhide HG') (by simp; omega) (fun r hr => ((unhide HO).lt r hr).1)⟩
      | false =>
        have HP := hide hp
        have hn : ¬ (st k 2 = x ∧ 0 < st k 1 ∧ st k 1 ≤ 3) := by simpa [pTo] using hp
        clear hp
        by_cases h1 : st k 2 = x
        · have h1b : (st k 2 == x) = true := by simpa using h1
          have hn2 : ¬ (0 < st k 1 ∧ st k 1 ≤ 3) := fun h => hn ⟨h1, h⟩
          clear h1 hn
          by_cases h2 : 1 ≤ st k 1
          · have h3 : ¬ st k 1 ≤ 3 := by omega
            clear hn2
            go_wp2
            go_roundw
            case measure => simp [intOf]; omega
            case rel => exact ⟨k + 1, by omega, by go_num, hide (by rw [plc, unhide HP, if_neg (by simp)]; exact unhide HO), hB⟩
          · clear hn2
            go_wp2
            go_roundw
            case measure => simp [intOf]; omega
            case rel => exact ⟨k + 1, by omega, by go_num, hide (by rw [plc, unhide HP, if_neg (by simp)]; exact unhide HO), hB⟩
        · have h1b : (st k 2 == x) = false := by simpa using h1
          clear h1 hn
          go_wp2
          go_roundw
          case measure => simp [intOf]; omega
          case rel => exact ⟨k + 1, by omega, by go_num, hide (by rw [plc, unhide HP, if_neg (by simp)]; exact unhide HO), hB⟩
    · obtain rfl : k = len := by omega
      obtain ⟨A', c', rfl, hr⟩ := RdL.of_own (unhide HO)
      have HR := hide hr
      clear hr
      go_wp2
      go_ret
      exact ⟨A', c', rfl, unhide HR, hB⟩
end Go.Proofs.Ytdkpadiaikfdpaa
