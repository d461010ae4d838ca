/- The walks of package history: the things that are so, and the iterator over their places. -/
import Derived.RangeFuncNested
import Derived.RangeFuncBound
import Derived.RangeFuncCalls
import Derived.RangeFuncLeaves
import Derived.Shelf.Abstract
import Derived.Shelf.RegionOpen
import Derived.OwnWalkIn
import Derived.TacticsInMore
import Derived.LoopNIn
import Derived.LoopIn
import Derived.Maps.AppendAt
import Derived.RangeFuncBox
import Derived.Test.YtahfoogcdgjimaaHsD
namespace Go.Proofs.Ytahfoogcdgjimaa
set_option linter.unusedVariables false
set_option linter.unusedSimpArgs false
open Go.RowKit Go.Shelf

theorem wideScope {n : Nat} {P : Program} {c : Code} {Q : Exit → Act → World → Prop} {a : Act} {w : World} (h : c.wpIn Fence.wide n P (Exit.noGoto Q) a w) : (Code.scope c).wpIn Fence.wide n P Q a w :=
  wpIn_wide.2 (wp_scope_straight (wpIn_wide.1 h))

set_option maxHeartbeats 2000000 in
theorem of1_any (a : Nat → Int) (b d : Bool) (q : Nat) (x : Int) (w : World) (hq : q < w.heap.size) (hx : w.cell? ⟨q, 0, none⟩ = some (.int .i64 x)) :
    Calls Try.prog 31 #[.agg #[.int .i64 (a 0), .int .i64 (a 1), .int .i64 (a 2), .int .i64 (a 3), .int .i64 (a 4), .int .i64 (a 5), .int .i64 (a 6), .int .i64 (a 7), .int .i64 (a 8), .int .i64 (a 9), .bool b, .int .i64 (a 11), .int .i64 (a 12), .int .i64 (a 13), .bool d], .pointer (some ⟨q, 0, none⟩)] w fun e w' => e = .returned (.bool (a 0 == x)) ∧ Below w.heap.size w w' := by
  have hq2 : (w.alloc (.cells #[.int .i64 (a 0), .int .i64 (a 1), .int .i64 (a 2), .int .i64 (a 3), .int .i64 (a 4), .int .i64 (a 5), .int .i64 (a 6), .int .i64 (a 7), .int .i64 (a 8), .int .i64 (a 9), .bool b, .int .i64 (a 11), .int .i64 (a 12), .int .i64 (a 13), .bool d] 36)).cell? ⟨q, 0, none⟩ = some (.int .i64 x) := (((Below.refl _ w).alloc (Nat.le_refl _) _).cell (p := ⟨q, 0, none⟩) hq).trans hx
  go_enter Try.func31, Try.ntmps31
  go_wp2
  go_ret
  exact ⟨rfl, by repeat (first | exact Below.refl _ _ | assumption | refine Below.alloc ?_ (by first | (simp; done) | (simp; omega) | omega) _ | refine Below.setCell ?_ (by first | (simp; done) | (simp; omega) | omega) _ | apply Below.drew | refine Below.trans ?_ (Below.mono (by assumption) (by first | (simp; done) | (simp; omega) | omega)))⟩

set_option maxHeartbeats 2000000 in
theorem open1_any (a : Nat → Int) (b d : Bool) (w : World) :
    Calls Try.prog 32 #[.agg #[.int .i64 (a 0), .int .i64 (a 1), .int .i64 (a 2), .int .i64 (a 3), .int .i64 (a 4), .int .i64 (a 5), .int .i64 (a 6), .int .i64 (a 7), .int .i64 (a 8), .int .i64 (a 9), .bool b, .int .i64 (a 11), .int .i64 (a 12), .int .i64 (a 13), .bool d]] w fun e w' => e = .returned (.bool (!d)) ∧ Below w.heap.size w w' := by
  go_enter Try.func32, Try.ntmps32
  cases d
  all_goals go_wp2
  all_goals go_ret
  all_goals exact ⟨rfl, by repeat (first | exact Below.refl _ _ | assumption | refine Below.alloc ?_ (by first | (simp; done) | (simp; omega) | omega) _ | refine Below.setCell ?_ (by first | (simp; done) | (simp; omega) | omega) _ | apply Below.drew | refine Below.trans ?_ (Below.mono (by assumption) (by first | (simp; done) | (simp; omega) | omega)))⟩

set_option maxHeartbeats 2000000 in
theorem at1_any (a : Nat → Int) (b d : Bool) (q : Nat) (x : Int) (w : World) (hq : q < w.heap.size) (hx : w.cell? ⟨q, 0, none⟩ = some (.int .i64 x)) :
    Calls Try.prog 33 #[.agg #[.int .i64 (a 0), .int .i64 (a 1), .int .i64 (a 2), .int .i64 (a 3), .int .i64 (a 4), .int .i64 (a 5), .int .i64 (a 6), .int .i64 (a 7), .int .i64 (a 8), .int .i64 (a 9), .bool b, .int .i64 (a 11), .int .i64 (a 12), .int .i64 (a 13), .bool d], .pointer (some ⟨q, 0, none⟩)] w fun e w' => e = .returned (.bool (undB a d x)) ∧ Below w.heap.size w w' := by
  have cu := hide (fun W => under_any a b d x W)
  have hq2 : (w.alloc (.cells #[.int .i64 (a 0), .int .i64 (a 1), .int .i64 (a 2), .int .i64 (a 3), .int .i64 (a 4), .int .i64 (a 5), .int .i64 (a 6), .int .i64 (a 7), .int .i64 (a 8), .int .i64 (a 9), .bool b, .int .i64 (a 11), .int .i64 (a 12), .int .i64 (a 13), .bool d] 36)).cell? ⟨q, 0, none⟩ = some (.int .i64 x) := (((Below.refl _ w).alloc (Nat.le_refl _) _).cell (p := ⟨q, 0, none⟩) hq).trans hx
  go_enter Try.func33, Try.ntmps33
  go_wp2_with fail
  refine (unhide cu _).mono ?_
  rintro e w2 ⟨rfl, hb2⟩
  have hz := hb2.size
  simp only [World.size_alloc] at hz
  have hB2 : Below w.heap.size w w2 := by repeat (first | exact Below.refl _ _ | assumption | refine Below.alloc ?_ (by first | (simp; done) | (simp; omega) | omega) _ | refine Below.setCell ?_ (by first | (simp; done) | (simp; omega) | omega) _ | apply Below.drew | refine Below.trans ?_ (Below.mono (by assumption) (by first | (simp; done) | (simp; omega) | omega)))
  clear hb2
  go_wp2
  go_ret
  exact ⟨rfl, hB2⟩

attribute [local go_sem] Oper.semAt_some

theorem grown_below {w W : World} (hb : Below w.heap.size w W) (row : Option Nat) : w.grownBy W row := ⟨hb.os, hb.tape, hb.output, hb.size, fun i hi _ => hb.block i hi⟩

/-- The places below n as numbers. -/
def plN (p : Nat → Bool) (n : Nat) : List Nat := (List.range n).filter p

theorem plN_yes (p : Nat → Bool) (k : Nat) (h : p k = true) : plN p (k + 1) = plN p k ++ [k] := by
  unfold plN; rw [List.range_succ, List.filter_append]; simp [h]
theorem plN_no (p : Nat → Bool) (k : Nat) (h : p k = false) : plN p (k + 1) = plN p k := by
  unfold plN; rw [List.range_succ, List.filter_append]; simp [h]
theorem plN_len (p : Nat → Bool) (k : Nat) : (plN p k).length ≤ k := by
  unfold plN; have := List.length_filter_le p (List.range k); simpa using this
theorem plN_plc (p : Nat → Bool) : ∀ n, (plN p n).map (fun i : Nat => (i : Int)) = plc p n
  | 0 => rfl
  | n + 1 => by
    cases h : p n with
    | true => rw [plN_yes p n h, List.map_append, plN_plc p n, plc, h, if_pos rfl]; rfl
    | false => rw [plN_no p n h, plN_plc p n, plc, h, if_neg (by simp)]

set_option maxHeartbeats 4000000 in
theorem of_stops (n : Nat) (hn : 1 ≤ n) (A : Option Addr) (len cap : Nat) (c : Nat → Nat → Int) (b d : Nat → Bool) (p : Nat → Bool) (q bl bf n₀ : Nat) (hlen : len ≤ 1000) (w : World)
    (HC : ∀ W, Below n₀ w W → CallOk W A len c b d)
    (HF : ∀ W k, k < len → Below n₀ w W → Calls Try.prog 31 (#[.agg #[.int .i64 (c k 0), .int .i64 (c k 1), .int .i64 (c k 2), .int .i64 (c k 3), .int .i64 (c k 4), .int .i64 (c k 5), .int .i64 (c k 6), .int .i64 (c k 7), .int .i64 (c k 8), .int .i64 (c k 9), .bool (b k), .int .i64 (c k 11), .int .i64 (c k 12), .int .i64 (c k 13), .bool (d k)]] ++ #[.pointer (some ⟨q, 0, none⟩)]) W fun e w' => e = .returned (.bool (p k)) ∧ Below W.heap.size W w')
    (hl : bl < n₀) (hf : bf < n₀) (hn₀ : n₀ ≤ w.heap.size) (cl : w.cell? ⟨bl, 0, none⟩ = some (.slice A len cap)) (cf : w.cell? ⟨bf, 0, none⟩ = some (.func (.func 31) #[] #[.pointer (some ⟨q, 0, none⟩)])) :
    SeqStopsK Fence.wide n Try.prog 39 #[.pointer (some ⟨bl, 0, none⟩), .pointer (some ⟨bf, 0, none⟩)] (fun i : Nat => #[Value.int .i64 (i : Int)]) (Below n₀) (fun ys => ys = plN p len) (fun pre => ∃ k, k ≤ len ∧ pre = plN p k) len w := by
  intro l J Jx W hW hJ hJx hY h0
  have hW0 : Below n₀ w W := hW.mono hn₀
  have cl2 : W.cell? ⟨bl, 0, none⟩ = some (.slice A len cap) := (hW0.cell (p := ⟨bl, 0, none⟩) hl).trans cl
  have cf2 : W.cell? ⟨bf, 0, none⟩ = some (.func (.func 31) #[] #[.pointer (some ⟨q, 0, none⟩)]) := (hW0.cell (p := ⟨bf, 0, none⟩) hf).trans cf
  have hsW : n₀ ≤ W.heap.size := Nat.le_trans hn₀ hW.size
  have HC2 := hide (fun U (hU : Below n₀ W U) => HC U (hW0.trans hU))
  have HF2 := hide (fun U k hk (hU : Below n₀ W U) => HF U k hk (hW0.trans hU))
  clear HC HF cl cf
  show CallsIn Fence.wide n Try.prog 39 #[.func (.yield l) #[] #[], .pointer (some ⟨bl, 0, none⟩), .pointer (some ⟨bf, 0, none⟩)] W _
  refine callsIn_of_wp Try.func39 rfl trivial ?_ rfl
  simp only [Try.ntmps39, List.size_toArray, List.length_cons, List.length_nil, Nat.reduceAdd, Nat.reduceSub, Array.replicate_succ, Array.replicate_zero, List.push_toArray, List.append_toArray, List.nil_append, List.cons_append]
  refine wideScope ?_
  gi_wp2
  refine wpIn_label ?_
  gi_wp2
  gi_loopw [8] (fun i wr => ∃ k : Nat, k ≤ len ∧ i = .int .i64 k ∧ J (plN p k) wr ∧ Below n₀ W wr) (fun i _ => len - (intOf i).toNat)
  case atStart => exact ⟨0, Nat.zero_le _, rfl, h0, Below.refl _ _⟩
  case round =>
    obtain ⟨k, hk, rfl, hJs, hnx⟩ := hrel
    by_cases hlt : k < len
    · obtain ⟨g, o, rfl, hg, hc⟩ := unhide HC2 _ hnx (by omega)
      obtain ⟨c0, c1, c2, c3, c4, c5, c6, c7, c8, c9, c10, c11, c12, c13, c14⟩ := hc k hlt
      have q0 : wr.cell? ⟨bf, 0, none⟩ = some (.func (.func 31) #[] #[.pointer (some ⟨q, 0, none⟩)]) := (hnx.cell (p := ⟨bf, 0, none⟩) hf).trans cf2
      have hsr := hnx.size
      have qn : wr.heap.size ≠ bf := by omega
      have hB1 : Below wr.heap.size wr (wr.alloc (.cells #[.int .i64 (c k 0), .int .i64 (c k 1), .int .i64 (c k 2), .int .i64 (c k 3), .int .i64 (c k 4), .int .i64 (c k 5), .int .i64 (c k 6), .int .i64 (c k 7), .int .i64 (c k 8), .int .i64 (c k 9), .bool (b k), .int .i64 (c k 11), .int .i64 (c k 12), .int .i64 (c k 13), .bool (d k)] 36)) := by repeat (first | exact Below.refl _ _ | assumption | refine Below.alloc ?_ (by first | (simp; done) | (simp; omega) | omega) _ | refine Below.setCell ?_ (by first | (simp; done) | (simp; omega) | omega) _ | apply Below.drew | refine Below.trans ?_ (Below.mono (by assumption) (by first | (simp; done) | (simp; omega) | omega)))
      have q1 : (wr.alloc (.cells #[.int .i64 (c k 0), .int .i64 (c k 1), .int .i64 (c k 2), .int .i64 (c k 3), .int .i64 (c k 4), .int .i64 (c k 5), .int .i64 (c k 6), .int .i64 (c k 7), .int .i64 (c k 8), .int .i64 (c k 9), .bool (b k), .int .i64 (c k 11), .int .i64 (c k 12), .int .i64 (c k 13), .bool (d k)] 36)).cell? ⟨bf, 0, none⟩ = some (.func (.func 31) #[] #[.pointer (some ⟨q, 0, none⟩)]) := (hB1.cell (p := ⟨bf, 0, none⟩) (by show bf < _; omega)).trans q0
      have hF := unhide HF2 _ k hlt (hnx.trans (hB1.mono (by omega)))
      have hlen2 := plN_len p k
      clear hc hB1
      gi_wp2
      refine ⟨trivial, ?_⟩
      refine (callsIn_wide.2 hF).mono ?_
      rintro e w3 ⟨rfl, hw3⟩
      have hB3 : Below wr.heap.size wr w3 := by repeat (first | exact Below.refl _ _ | assumption | refine Below.alloc ?_ (by first | (simp; done) | (simp; omega) | omega) _ | refine Below.setCell ?_ (by first | (simp; done) | (simp; omega) | omega) _ | apply Below.drew | refine Below.trans ?_ (Below.mono (by assumption) (by first | (simp; done) | (simp; omega) | omega)))
      have hJ3 : J (plN p k) w3 := hJ _ _ _ none hJs (grown_below hB3 none) (by intro r e; cases e)
      have hn3 : Below n₀ W w3 := hnx.trans (hB3.mono (by omega))
      clear hw3 hF q0 q1 c0 c1 c2 c3 c4 c5 c6 c7 c8 c9 c10 c11 c12 c13 c14 hB3 cl2 cf2
      rcases Bool.eq_false_or_eq_true (p k) with hp | hp
      · obtain ⟨fn, tmps, assign, body, hy, hR⟩ := hY (plN p k) k w3 hJ3 (by omega)
        have HP := hide hp
        rw [hp]
        clear hp
        gi_wp2
        refine hR.mono ?_
        rintro e W3 (⟨rfl, hJ4, hk3⟩ | ⟨rfl, hJx3⟩)
        · gi_wp2
          go_roundw
          case rel => exact ⟨k + 1, by omega, by go_num, by rw [plN_yes p k (unhide HP)]; exact hJ4, hn3.trans hk3⟩
          case measure => simp [intOf]; omega
        · gi_wp2
          (try simp only [Exit.noGoto])
          go_end0
          exact ⟨⟨_, rfl⟩, .inr ⟨_, ⟨k + 1, by omega, (plN_yes p k (unhide HP)).symm⟩, hJx3⟩⟩
      · have HP := hide hp
        rw [hp]
        clear hp
        gi_wp2
        refine ⟨fun f hf => (by cases hf), ?_⟩
        gi_wp2
        go_roundw
        case rel => exact ⟨k + 1, by omega, by go_num, by rw [plN_no p k (unhide HP)]; exact hJ3, hn3⟩
        case measure => simp [intOf]; omega
    · obtain rfl : k = len := by omega
      gi_wp2
      (try simp only [Exit.noGoto])
      go_end0
      exact ⟨⟨_, rfl⟩, .inl ⟨_, rfl, hJs⟩⟩
set_option maxHeartbeats 4000000 in
theorem open_stops (n : Nat) (hn : 1 ≤ n) (A : Option Addr) (len cap : Nat) (c : Nat → Nat → Int) (b d : Nat → Bool) (p : Nat → Bool) (q bl bf n₀ : Nat) (hlen : len ≤ 1000) (w : World)
    (HC : ∀ W, Below n₀ w W → CallOk W A len c b d)
    (HF : ∀ W k, k < len → Below n₀ w W → Calls Try.prog 32 (#[.agg #[.int .i64 (c k 0), .int .i64 (c k 1), .int .i64 (c k 2), .int .i64 (c k 3), .int .i64 (c k 4), .int .i64 (c k 5), .int .i64 (c k 6), .int .i64 (c k 7), .int .i64 (c k 8), .int .i64 (c k 9), .bool (b k), .int .i64 (c k 11), .int .i64 (c k 12), .int .i64 (c k 13), .bool (d k)]] ++ #[]) W fun e w' => e = .returned (.bool (p k)) ∧ Below W.heap.size W w')
    (hl : bl < n₀) (hf : bf < n₀) (hn₀ : n₀ ≤ w.heap.size) (cl : w.cell? ⟨bl, 0, none⟩ = some (.slice A len cap)) (cf : w.cell? ⟨bf, 0, none⟩ = some (.func (.func 32) #[] #[])) :
    SeqStopsK Fence.wide n Try.prog 39 #[.pointer (some ⟨bl, 0, none⟩), .pointer (some ⟨bf, 0, none⟩)] (fun i : Nat => #[Value.int .i64 (i : Int)]) (Below n₀) (fun ys => ys = plN p len) (fun pre => ∃ k, k ≤ len ∧ pre = plN p k) len w := by
  intro l J Jx W hW hJ hJx hY h0
  have hW0 : Below n₀ w W := hW.mono hn₀
  have cl2 : W.cell? ⟨bl, 0, none⟩ = some (.slice A len cap) := (hW0.cell (p := ⟨bl, 0, none⟩) hl).trans cl
  have cf2 : W.cell? ⟨bf, 0, none⟩ = some (.func (.func 32) #[] #[]) := (hW0.cell (p := ⟨bf, 0, none⟩) hf).trans cf
  have hsW : n₀ ≤ W.heap.size := Nat.le_trans hn₀ hW.size
  have HC2 := hide (fun U (hU : Below n₀ W U) => HC U (hW0.trans hU))
  have HF2 := hide (fun U k hk (hU : Below n₀ W U) => HF U k hk (hW0.trans hU))
  clear HC HF cl cf
  show CallsIn Fence.wide n Try.prog 39 #[.func (.yield l) #[] #[], .pointer (some ⟨bl, 0, none⟩), .pointer (some ⟨bf, 0, none⟩)] W _
  refine callsIn_of_wp Try.func39 rfl trivial ?_ rfl
  simp only [Try.ntmps39, List.size_toArray, List.length_cons, List.length_nil, Nat.reduceAdd, Nat.reduceSub, Array.replicate_succ, Array.replicate_zero, List.push_toArray, List.append_toArray, List.nil_append, List.cons_append]
  refine wideScope ?_
  gi_wp2
  refine wpIn_label ?_
  gi_wp2
  gi_loopw [8] (fun i wr => ∃ k : Nat, k ≤ len ∧ i = .int .i64 k ∧ J (plN p k) wr ∧ Below n₀ W wr) (fun i _ => len - (intOf i).toNat)
  case atStart => exact ⟨0, Nat.zero_le _, rfl, h0, Below.refl _ _⟩
  case round =>
    obtain ⟨k, hk, rfl, hJs, hnx⟩ := hrel
    by_cases hlt : k < len
    · obtain ⟨g, o, rfl, hg, hc⟩ := unhide HC2 _ hnx (by omega)
      obtain ⟨c0, c1, c2, c3, c4, c5, c6, c7, c8, c9, c10, c11, c12, c13, c14⟩ := hc k hlt
      have q0 : wr.cell? ⟨bf, 0, none⟩ = some (.func (.func 32) #[] #[]) := (hnx.cell (p := ⟨bf, 0, none⟩) hf).trans cf2
      have hsr := hnx.size
      have qn : wr.heap.size ≠ bf := by omega
      have hB1 : Below wr.heap.size wr (wr.alloc (.cells #[.int .i64 (c k 0), .int .i64 (c k 1), .int .i64 (c k 2), .int .i64 (c k 3), .int .i64 (c k 4), .int .i64 (c k 5), .int .i64 (c k 6), .int .i64 (c k 7), .int .i64 (c k 8), .int .i64 (c k 9), .bool (b k), .int .i64 (c k 11), .int .i64 (c k 12), .int .i64 (c k 13), .bool (d k)] 36)) := by repeat (first | exact Below.refl _ _ | assumption | refine Below.alloc ?_ (by first | (simp; done) | (simp; omega) | omega) _ | refine Below.setCell ?_ (by first | (simp; done) | (simp; omega) | omega) _ | apply Below.drew | refine Below.trans ?_ (Below.mono (by assumption) (by first | (simp; done) | (simp; omega) | omega)))
      have q1 : (wr.alloc (.cells #[.int .i64 (c k 0), .int .i64 (c k 1), .int .i64 (c k 2), .int .i64 (c k 3), .int .i64 (c k 4), .int .i64 (c k 5), .int .i64 (c k 6), .int .i64 (c k 7), .int .i64 (c k 8), .int .i64 (c k 9), .bool (b k), .int .i64 (c k 11), .int .i64 (c k 12), .int .i64 (c k 13), .bool (d k)] 36)).cell? ⟨bf, 0, none⟩ = some (.func (.func 32) #[] #[]) := (hB1.cell (p := ⟨bf, 0, none⟩) (by show bf < _; omega)).trans q0
      have hF := unhide HF2 _ k hlt (hnx.trans (hB1.mono (by omega)))
      have hlen2 := plN_len p k
      clear hc hB1
      gi_wp2
      refine ⟨trivial, ?_⟩
      refine (callsIn_wide.2 hF).mono ?_
      rintro e w3 ⟨rfl, hw3⟩
      have hB3 : Below wr.heap.size wr w3 := by repeat (first | exact Below.refl _ _ | assumption | refine Below.alloc ?_ (by first | (simp; done) | (simp; omega) | omega) _ | refine Below.setCell ?_ (by first | (simp; done) | (simp; omega) | omega) _ | apply Below.drew | refine Below.trans ?_ (Below.mono (by assumption) (by first | (simp; done) | (simp; omega) | omega)))
      have hJ3 : J (plN p k) w3 := hJ _ _ _ none hJs (grown_below hB3 none) (by intro r e; cases e)
      have hn3 : Below n₀ W w3 := hnx.trans (hB3.mono (by omega))
      clear hw3 hF q0 q1 c0 c1 c2 c3 c4 c5 c6 c7 c8 c9 c10 c11 c12 c13 c14 hB3 cl2 cf2
      rcases Bool.eq_false_or_eq_true (p k) with hp | hp
      · obtain ⟨fn, tmps, assign, body, hy, hR⟩ := hY (plN p k) k w3 hJ3 (by omega)
        have HP := hide hp
        rw [hp]
        clear hp
        gi_wp2
        refine hR.mono ?_
        rintro e W3 (⟨rfl, hJ4, hk3⟩ | ⟨rfl, hJx3⟩)
        · gi_wp2
          go_roundw
          case rel => exact ⟨k + 1, by omega, by go_num, by rw [plN_yes p k (unhide HP)]; exact hJ4, hn3.trans hk3⟩
          case measure => simp [intOf]; omega
        · gi_wp2
          (try simp only [Exit.noGoto])
          go_end0
          exact ⟨⟨_, rfl⟩, .inr ⟨_, ⟨k + 1, by omega, (plN_yes p k (unhide HP)).symm⟩, hJx3⟩⟩
      · have HP := hide hp
        rw [hp]
        clear hp
        gi_wp2
        refine ⟨fun f hf => (by cases hf), ?_⟩
        gi_wp2
        go_roundw
        case rel => exact ⟨k + 1, by omega, by go_num, by rw [plN_no p k (unhide HP)]; exact hJ3, hn3⟩
        case measure => simp [intOf]; omega
    · obtain rfl : k = len := by omega
      gi_wp2
      (try simp only [Exit.noGoto])
      go_end0
      exact ⟨⟨_, rfl⟩, .inl ⟨_, rfl, hJs⟩⟩
set_option maxHeartbeats 4000000 in
theorem at_stops (n : Nat) (hn : 1 ≤ n) (A : Option Addr) (len cap : Nat) (c : Nat → Nat → Int) (b d : Nat → Bool) (p : Nat → Bool) (q bl bf n₀ : Nat) (hlen : len ≤ 1000) (w : World)
    (HC : ∀ W, Below n₀ w W → CallOk W A len c b d)
    (HF : ∀ W k, k < len → Below n₀ w W → Calls Try.prog 33 (#[.agg #[.int .i64 (c k 0), .int .i64 (c k 1), .int .i64 (c k 2), .int .i64 (c k 3), .int .i64 (c k 4), .int .i64 (c k 5), .int .i64 (c k 6), .int .i64 (c k 7), .int .i64 (c k 8), .int .i64 (c k 9), .bool (b k), .int .i64 (c k 11), .int .i64 (c k 12), .int .i64 (c k 13), .bool (d k)]] ++ #[.pointer (some ⟨q, 0, none⟩)]) W fun e w' => e = .returned (.bool (p k)) ∧ Below W.heap.size W w')
    (hl : bl < n₀) (hf : bf < n₀) (hn₀ : n₀ ≤ w.heap.size) (cl : w.cell? ⟨bl, 0, none⟩ = some (.slice A len cap)) (cf : w.cell? ⟨bf, 0, none⟩ = some (.func (.func 33) #[] #[.pointer (some ⟨q, 0, none⟩)])) :
    SeqStopsK Fence.wide n Try.prog 39 #[.pointer (some ⟨bl, 0, none⟩), .pointer (some ⟨bf, 0, none⟩)] (fun i : Nat => #[Value.int .i64 (i : Int)]) (Below n₀) (fun ys => ys = plN p len) (fun pre => ∃ k, k ≤ len ∧ pre = plN p k) len w := by
  intro l J Jx W hW hJ hJx hY h0
  have hW0 : Below n₀ w W := hW.mono hn₀
  have cl2 : W.cell? ⟨bl, 0, none⟩ = some (.slice A len cap) := (hW0.cell (p := ⟨bl, 0, none⟩) hl).trans cl
  have cf2 : W.cell? ⟨bf, 0, none⟩ = some (.func (.func 33) #[] #[.pointer (some ⟨q, 0, none⟩)]) := (hW0.cell (p := ⟨bf, 0, none⟩) hf).trans cf
  have hsW : n₀ ≤ W.heap.size := Nat.le_trans hn₀ hW.size
  have HC2 := hide (fun U (hU : Below n₀ W U) => HC U (hW0.trans hU))
  have HF2 := hide (fun U k hk (hU : Below n₀ W U) => HF U k hk (hW0.trans hU))
  clear HC HF cl cf
  show CallsIn Fence.wide n Try.prog 39 #[.func (.yield l) #[] #[], .pointer (some ⟨bl, 0, none⟩), .pointer (some ⟨bf, 0, none⟩)] W _
  refine callsIn_of_wp Try.func39 rfl trivial ?_ rfl
  simp only [Try.ntmps39, List.size_toArray, List.length_cons, List.length_nil, Nat.reduceAdd, Nat.reduceSub, Array.replicate_succ, Array.replicate_zero, List.push_toArray, List.append_toArray, List.nil_append, List.cons_append]
  refine wideScope ?_
  gi_wp2
  refine wpIn_label ?_
  gi_wp2
  gi_loopw [8] (fun i wr => ∃ k : Nat, k ≤ len ∧ i = .int .i64 k ∧ J (plN p k) wr ∧ Below n₀ W wr) (fun i _ => len - (intOf i).toNat)
  case atStart => exact ⟨0, Nat.zero_le _, rfl, h0, Below.refl _ _⟩
  case round =>
    obtain ⟨k, hk, rfl, hJs, hnx⟩ := hrel
    by_cases hlt : k < len
    · obtain ⟨g, o, rfl, hg, hc⟩ := unhide HC2 _ hnx (by omega)
      obtain ⟨c0, c1, c2, c3, c4, c5, c6, c7, c8, c9, c10, c11, c12, c13, c14⟩ := hc k hlt
      have q0 : wr.cell? ⟨bf, 0, none⟩ = some (.func (.func 33) #[] #[.pointer (some ⟨q, 0, none⟩)]) := (hnx.cell (p := ⟨bf, 0, none⟩) hf).trans cf2
      have hsr := hnx.size
      have qn : wr.heap.size ≠ bf := by omega
      have hB1 : Below wr.heap.size wr (wr.alloc (.cells #[.int .i64 (c k 0), .int .i64 (c k 1), .int .i64 (c k 2), .int .i64 (c k 3), .int .i64 (c k 4), .int .i64 (c k 5), .int .i64 (c k 6), .int .i64 (c k 7), .int .i64 (c k 8), .int .i64 (c k 9), .bool (b k), .int .i64 (c k 11), .int .i64 (c k 12), .int .i64 (c k 13), .bool (d k)] 36)) := by repeat (first | exact Below.refl _ _ | assumption | refine Below.alloc ?_ (by first | (simp; done) | (simp; omega) | omega) _ | refine Below.setCell ?_ (by first | (simp; done) | (simp; omega) | omega) _ | apply Below.drew | refine Below.trans ?_ (Below.mono (by assumption) (by first | (simp; done) | (simp; omega) | omega)))
      have q1 : (wr.alloc (.cells #[.int .i64 (c k 0), .int .i64 (c k 1), .int .i64 (c k 2), .int .i64 (c k 3), .int .i64 (c k 4), .int .i64 (c k 5), .int .i64 (c k 6), .int .i64 (c k 7), .int .i64 (c k 8), .int .i64 (c k 9), .bool (b k), .int .i64 (c k 11), .int .i64 (c k 12), .int .i64 (c k 13), .bool (d k)] 36)).cell? ⟨bf, 0, none⟩ = some (.func (.func 33) #[] #[.pointer (some ⟨q, 0, none⟩)]) := (hB1.cell (p := ⟨bf, 0, none⟩) (by show bf < _; omega)).trans q0
      have hF := unhide HF2 _ k hlt (hnx.trans (hB1.mono (by omega)))
      have hlen2 := plN_len p k
      clear hc hB1
      gi_wp2
      refine ⟨trivial, ?_⟩
      refine (callsIn_wide.2 hF).mono ?_
      rintro e w3 ⟨rfl, hw3⟩
      have hB3 : Below wr.heap.size wr w3 := by repeat (first | exact Below.refl _ _ | assumption | refine Below.alloc ?_ (by first | (simp; done) | (simp; omega) | omega) _ | refine Below.setCell ?_ (by first | (simp; done) | (simp; omega) | omega) _ | apply Below.drew | refine Below.trans ?_ (Below.mono (by assumption) (by first | (simp; done) | (simp; omega) | omega)))
      have hJ3 : J (plN p k) w3 := hJ _ _ _ none hJs (grown_below hB3 none) (by intro r e; cases e)
      have hn3 : Below n₀ W w3 := hnx.trans (hB3.mono (by omega))
      clear hw3 hF q0 q1 c0 c1 c2 c3 c4 c5 c6 c7 c8 c9 c10 c11 c12 c13 c14 hB3 cl2 cf2
      rcases Bool.eq_false_or_eq_true (p k) with hp | hp
      · obtain ⟨fn, tmps, assign, body, hy, hR⟩ := hY (plN p k) k w3 hJ3 (by omega)
        have HP := hide hp
        rw [hp]
        clear hp
        gi_wp2
        refine hR.mono ?_
        rintro e W3 (⟨rfl, hJ4, hk3⟩ | ⟨rfl, hJx3⟩)
        · gi_wp2
          go_roundw
          case rel => exact ⟨k + 1, by omega, by go_num, by rw [plN_yes p k (unhide HP)]; exact hJ4, hn3.trans hk3⟩
          case measure => simp [intOf]; omega
        · gi_wp2
          (try simp only [Exit.noGoto])
          go_end0
          exact ⟨⟨_, rfl⟩, .inr ⟨_, ⟨k + 1, by omega, (plN_yes p k (unhide HP)).symm⟩, hJx3⟩⟩
      · have HP := hide hp
        rw [hp]
        clear hp
        gi_wp2
        refine ⟨fun f hf => (by cases hf), ?_⟩
        gi_wp2
        go_roundw
        case rel => exact ⟨k + 1, by omega, by go_num, by rw [plN_no p k (unhide HP)]; exact hJ3, hn3⟩
        case measure => simp [intOf]; omega
    · obtain rfl : k = len := by omega
      gi_wp2
      (try simp only [Exit.noGoto])
      go_end0
      exact ⟨⟨_, rfl⟩, .inl ⟨_, rfl, hJs⟩⟩
end Go.Proofs.Ytahfoogcdgjimaa
