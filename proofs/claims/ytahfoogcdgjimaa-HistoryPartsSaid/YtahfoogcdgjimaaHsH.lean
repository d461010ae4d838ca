/- The walks of package history: the calls begun by a step gone over. -/
import Derived.Test.YtahfoogcdgjimaaHsG
import Derived.Test.YtahfoogcdgjimaaRf
namespace Go.Proofs.Ytahfoogcdgjimaa
set_option linter.unusedVariables false
set_option linter.unusedSimpArgs false
open Go.RowKit Go.Shelf

set_option maxHeartbeats 2000000 in
theorem cut1_any (a : Nat → Int) (b d : Bool) (q : Nat) (x : Int) (w : World) (hq : q < w.heap.size) (hx : w.cell? ⟨q, 0, none⟩ = some (.int .i64 x)) :
    Calls Try.prog 36 #[.agg #[.int .i64 (a 0), .int .i64 (a 1), .int .i64 (a 2), .int .i64 (a 3), .int .i64 (a 4), .int .i64 (a 5), .int .i64 (a 6), .int .i64 (a 7), .int .i64 (a 8), .int .i64 (a 9), .bool b, .int .i64 (a 11), .int .i64 (a 12), .int .i64 (a 13), .bool d], .pointer (some ⟨q, 0, none⟩)] w fun e w' => e = .returned (.bool (decide (a 12 ≤ x))) ∧ Below w.heap.size w w' := by
  have hq2 : (w.alloc (.cells #[.int .i64 (a 0), .int .i64 (a 1), .int .i64 (a 2), .int .i64 (a 3), .int .i64 (a 4), .int .i64 (a 5), .int .i64 (a 6), .int .i64 (a 7), .int .i64 (a 8), .int .i64 (a 9), .bool b, .int .i64 (a 11), .int .i64 (a 12), .int .i64 (a 13), .bool d] 36)).cell? ⟨q, 0, none⟩ = some (.int .i64 x) := (((Below.refl _ w).alloc (Nat.le_refl _) _).cell (p := ⟨q, 0, none⟩) hq).trans hx
  by_cases h : a 12 ≤ x
  · go_enter Try.func36, Try.ntmps36
    go_wp2
    go_ret
    exact ⟨ret_bool (by simp [h]), by repeat (first | exact Below.refl _ _ | assumption | refine Below.alloc ?_ (by first | (simp; done) | (simp; omega) | omega) _ | refine Below.setCell ?_ (by first | (simp; done) | (simp; omega) | omega) _ | apply Below.drew | refine Below.trans ?_ (Below.mono (by assumption) (by first | (simp; done) | (simp; omega) | omega)))⟩
  · go_enter Try.func36, Try.ntmps36
    go_wp2
    go_ret
    exact ⟨ret_bool (by simp [h]), by repeat (first | exact Below.refl _ _ | assumption | refine Below.alloc ?_ (by first | (simp; done) | (simp; omega) | omega) _ | refine Below.setCell ?_ (by first | (simp; done) | (simp; omega) | omega) _ | apply Below.drew | refine Below.trans ?_ (Below.mono (by assumption) (by first | (simp; done) | (simp; omega) | omega)))⟩

attribute [local go_sem] Oper.semAt_some

set_option maxHeartbeats 4000000 in
theorem cut_stops (n : Nat) (hn : 1 ≤ n) (A : Option Addr) (len cap : Nat) (c : Nat → Nat → Int) (b d : Nat → Bool) (p : Nat → Bool) (q bl bf n₀ hx : Nat) (hlx : bl ≠ hx) (hfx : bf ≠ hx) (hlen : len ≤ 1000) (w : World)
    (HC : ∀ W, KeptBut n₀ hx w W → CallOk W A len c b d)
    (HF : ∀ W k, k < len → KeptBut n₀ hx w W → Calls Try.prog 36 (#[.agg #[.int .i64 (c k 0), .int .i64 (c k 1), .int .i64 (c k 2), .int .i64 (c k 3), .int .i64 (c k 4), .int .i64 (c k 5), .int .i64 (c k 6), .int .i64 (c k 7), .int .i64 (c k 8), .int .i64 (c k 9), .bool (b k), .int .i64 (c k 11), .int .i64 (c k 12), .int .i64 (c k 13), .bool (d k)]] ++ #[.pointer (some ⟨q, 0, none⟩)]) W fun e w' => e = .returned (.bool (p k)) ∧ Below W.heap.size W w')
    (hl : bl < n₀) (hf : bf < n₀) (hn₀ : n₀ ≤ w.heap.size) (cl : w.cell? ⟨bl, 0, none⟩ = some (.slice A len cap)) (cf : w.cell? ⟨bf, 0, none⟩ = some (.func (.func 36) #[] #[.pointer (some ⟨q, 0, none⟩)])) :
    SeqStopsK Fence.wide n Try.prog 39 #[.pointer (some ⟨bl, 0, none⟩), .pointer (some ⟨bf, 0, none⟩)] (fun i : Fin len => #[Value.int .i64 (i.val : Int)]) (KeptBut n₀ hx) (fun ys => ys.map (·.val) = plN p len) (fun _ => True) len w := by
  intro l J Jx W hW hJ hJx hY h0
  have hW0 : KeptBut n₀ hx w W := KeptBut.below hW hn₀
  have cl2 : W.cell? ⟨bl, 0, none⟩ = some (.slice A len cap) := hW0.cell hl hlx cl
  have cf2 : W.cell? ⟨bf, 0, none⟩ = some (.func (.func 36) #[] #[.pointer (some ⟨q, 0, none⟩)]) := hW0.cell hf hfx cf
  have hsW : n₀ ≤ W.heap.size := Nat.le_trans hn₀ hW.size
  have HC2 := hide (fun U (hU : KeptBut n₀ hx W U) => HC U (hW0.trans hU))
  have HF2 := hide (fun U k hk (hU : KeptBut n₀ hx W U) => HF U k hk (hW0.trans hU))
  clear HC HF cl cf
  show CallsIn Fence.wide n Try.prog 39 #[.func (.yield l) #[] #[], .pointer (some ⟨bl, 0, none⟩), .pointer (some ⟨bf, 0, none⟩)] W _
  refine callsIn_of_wp Try.func39 rfl trivial ?_ rfl
  simp only [Try.ntmps39, List.size_toArray, List.length_cons, List.length_nil, Nat.reduceAdd, Nat.reduceSub, Array.replicate_succ, Array.replicate_zero, List.push_toArray, List.append_toArray, List.nil_append, List.cons_append]
  refine wideScope ?_
  gi_wp2
  refine wpIn_label ?_
  gi_wp2
  gi_loopw [8] (fun i wr => ∃ (k : Nat) (ys : List (Fin len)), k ≤ len ∧ i = .int .i64 k ∧ Hid (ys.map (·.val) = plN p k) ∧ J ys wr ∧ KeptBut n₀ hx W wr) (fun i _ => len - (intOf i).toNat)
  case atStart => exact ⟨0, [], Nat.zero_le _, rfl, hide rfl, h0, KeptBut.refl _ _ _⟩
  case round =>
    obtain ⟨k, ys, hk, rfl, HY, hJs, hnx⟩ := hrel
    by_cases hlt : k < len
    · obtain ⟨g, o, rfl, hg, hc⟩ := unhide HC2 _ hnx (by omega)
      obtain ⟨c0, c1, c2, c3, c4, c5, c6, c7, c8, c9, c10, c11, c12, c13, c14⟩ := hc k hlt
      have q0 : wr.cell? ⟨bf, 0, none⟩ = some (.func (.func 36) #[] #[.pointer (some ⟨q, 0, none⟩)]) := hnx.cell hf hfx cf2
      have hsr := hnx.1
      have qn : wr.heap.size ≠ bf := by omega
      have hB1 : Below wr.heap.size wr (wr.alloc (.cells #[.int .i64 (c k 0), .int .i64 (c k 1), .int .i64 (c k 2), .int .i64 (c k 3), .int .i64 (c k 4), .int .i64 (c k 5), .int .i64 (c k 6), .int .i64 (c k 7), .int .i64 (c k 8), .int .i64 (c k 9), .bool (b k), .int .i64 (c k 11), .int .i64 (c k 12), .int .i64 (c k 13), .bool (d k)] 36)) := by repeat (first | exact Below.refl _ _ | assumption | refine Below.alloc ?_ (by first | (simp; done) | (simp; omega) | omega) _ | refine Below.setCell ?_ (by first | (simp; done) | (simp; omega) | omega) _ | apply Below.drew | refine Below.trans ?_ (Below.mono (by assumption) (by first | (simp; done) | (simp; omega) | omega)))
      have q1 : (wr.alloc (.cells #[.int .i64 (c k 0), .int .i64 (c k 1), .int .i64 (c k 2), .int .i64 (c k 3), .int .i64 (c k 4), .int .i64 (c k 5), .int .i64 (c k 6), .int .i64 (c k 7), .int .i64 (c k 8), .int .i64 (c k 9), .bool (b k), .int .i64 (c k 11), .int .i64 (c k 12), .int .i64 (c k 13), .bool (d k)] 36)).cell? ⟨bf, 0, none⟩ = some (.func (.func 36) #[] #[.pointer (some ⟨q, 0, none⟩)]) := (hB1.cell (p := ⟨bf, 0, none⟩) (by show bf < _; omega)).trans q0
      have hF := unhide HF2 _ k hlt (hnx.trans (KeptBut.below hB1 (by omega)))
      have hlen2 : ys.length ≤ k := by have h1 := plN_len p k; rw [← unhide HY, List.length_map] at h1; exact h1
      clear hc hB1
      gi_wp2
      refine ⟨trivial, ?_⟩
      refine (callsIn_wide.2 hF).mono ?_
      rintro e w3 ⟨rfl, hw3⟩
      have hB3 : Below wr.heap.size wr w3 := by repeat (first | exact Below.refl _ _ | assumption | refine Below.alloc ?_ (by first | (simp; done) | (simp; omega) | omega) _ | refine Below.setCell ?_ (by first | (simp; done) | (simp; omega) | omega) _ | apply Below.drew | refine Below.trans ?_ (Below.mono (by assumption) (by first | (simp; done) | (simp; omega) | omega)))
      have hJ3 : J ys w3 := hJ _ _ _ none hJs (grown_below hB3 none) (by intro r e; cases e)
      have hn3 : KeptBut n₀ hx W w3 := hnx.trans (KeptBut.below hB3 (by omega))
      clear hw3 hF q0 q1 c0 c1 c2 c3 c4 c5 c6 c7 c8 c9 c10 c11 c12 c13 c14 hB3 cl2 cf2
      rcases Bool.eq_false_or_eq_true (p k) with hp | hp
      · obtain ⟨fn, tmps, assign, body, hy, hR⟩ := hY ys ⟨k, hlt⟩ w3 hJ3 (by omega)
        have HP := hide hp
        rw [hp]
        clear hp
        gi_wp2
        refine hR.mono ?_
        rintro e W3 (⟨rfl, hJ4, hk3⟩ | ⟨rfl, hJx3⟩)
        · gi_wp2
          go_roundw
          case rel => exact ⟨k + 1, ys ++ [⟨k, hlt⟩], by omega, by go_num, hide (by rw [plN_yes p k (unhide HP), List.map_append, unhide HY]; rfl), hJ4, hn3.trans hk3⟩
          case measure => simp [intOf]; omega
        · gi_wp2
          (try simp only [Exit.noGoto])
          go_end0
          exact ⟨⟨_, rfl⟩, .inr ⟨_, trivial, hJx3⟩⟩
      · have HP := hide hp
        rw [hp]
        clear hp
        gi_wp2
        refine ⟨fun f hf => (by cases hf), ?_⟩
        gi_wp2
        go_roundw
        case rel => exact ⟨k + 1, ys, by omega, by go_num, hide (by rw [plN_no p k (unhide HP)]; exact unhide HY), hJ3, hn3⟩
        case measure => simp [intOf]; omega
    · obtain rfl : k = len := by omega
      gi_wp2
      (try simp only [Exit.noGoto])
      go_end0
      exact ⟨⟨_, rfl⟩, .inl ⟨_, unhide HY, hJs⟩⟩
end Go.Proofs.Ytahfoogcdgjimaa
