/- The walk of PackRequests: it returns true. -/
import Derived.Test.YthkfcleigidihaaPkW
import Derived.Test.YthkfcleigidihaaOp
namespace Go.Proofs.Ythkfcleigidihaa
set_option linter.unusedVariables false
set_option linter.unusedSimpArgs false
open Go.RowKit

theorem reqOf (x : Int) (h : ofReqB x = true) (w : World) :
    Calls Try.prog 10 #[.agg #[.int .i64 (ofReqEp x), .int .i64 (ofReqPh x)]] w fun e w' => e = .returned (.tuple #[.int .u64 x, .int .i64 0]) ∧ Below w.heap.size w w' := by
  have k := request_any (x / 8) (x % 8) w
  have hr : reqB (x / 8) (x % 8) = true := h
  have e1 : reqW (x / 8) (x % 8) = x := by simp only [reqW, hr, if_true]; omega
  have e2 : reqE (x / 8) (x % 8) = 0 := by simp only [reqE, hr, if_true]
  rw [e1, e2] at k
  rwa [show ofReqEp x = x / 8 by simp [ofReqEp, h], show ofReqPh x = x % 8 by simp [ofReqPh, h]]

set_option maxHeartbeats 4000000 in
theorem packRequests_walk (ep : Int) (_ : (Lit.int .i64 ep).wf = true) (ph : Int) (_ : (Lit.int .i64 ph).wf = true) (A : Option Addr) (len cap : Nat) (w : World) (hr : RowOk w 5 [.int .u64] A len cap) :
    Calls Try.prog 3 #[.agg #[.int .i64 ep, .int .i64 ph], .slice A len cap] w fun e w' => e = .returned (.bool true) ∧ Below w.heap.size w w' := by
  have hm := hr.1
  have hm2 := hr.2.1
  unfold maxLen at hm2
  obtain ⟨b, o, z, hA, hc⟩ := hr.ints
  clear hr
  have HA := hide hA
  have HC := hide hc
  clear hA hc
  by_cases hl : 60 < len
  · go_enter Try.func3, Try.ntmps3
    go_wp2_with (go_at_call 9; refine (works_any _).mono ?_; rintro e ww ⟨rfl, hww⟩; obtain ⟨hcww, hfww⟩ := bcell hww; (try (simp only [World.size_drew, World.cell?_drew, World.frozen?_drew] at hcww hfww)); have hzww := hww.size; (try (simp only [World.size_alloc, World.size_setCell, World.size_drew] at hzww)); (try (have hzww_w_0 : w.heap.size < ww.heap.size := by omega)); (try (have hzww_w_1 : w.heap.size + 1 < ww.heap.size := by omega)); (try (have hzww_w_2 : w.heap.size + 1 + 1 < ww.heap.size := by omega)); (try (have hzww_w_3 : w.heap.size + 1 + 1 + 1 < ww.heap.size := by omega)); (try (have hyww_w : w.heap.size ≤ ww.heap.size := by omega)); (try (have hyww_wa : w.heap.size + 1 ≤ ww.heap.size := by omega)))
    go_ret
    refine ⟨rfl, ?_⟩
    repeat (first | exact Below.refl _ _ | assumption | refine Below.alloc ?_ (by first | (simp; done) | (simp; omega) | omega) _ | refine Below.setCell ?_ (by first | (simp; done) | (simp; omega) | omega) _ | apply Below.drew | refine Below.trans ?_ (Below.mono (by assumption) (by first | (simp; done) | (simp; omega) | omega)))
  · go_enter Try.func3, Try.ntmps3
    go_wp2_with fail
    (refine (request_any _ _ _).mono ?_); rintro e w1 ⟨rfl, hw1⟩; obtain ⟨hcw1, hfw1⟩ := bcell hw1; (try (simp only [World.size_drew, World.cell?_drew, World.frozen?_drew] at hcw1 hfw1)); have hzw1 := hw1.size; (try (simp only [World.size_alloc, World.size_setCell, World.size_drew] at hzw1)); (try (have hzw1_w_0 : w.heap.size < w1.heap.size := by omega)); (try (have hzw1_w_1 : w.heap.size + 1 < w1.heap.size := by omega)); (try (have hzw1_w_2 : w.heap.size + 1 + 1 < w1.heap.size := by omega)); (try (have hzw1_w_3 : w.heap.size + 1 + 1 + 1 < w1.heap.size := by omega)); (try (have hyw1_w : w.heap.size ≤ w1.heap.size := by omega)); (try (have hyw1_wa : w.heap.size + 1 ≤ w1.heap.size := by omega))
    go_wp2_with fail
    (refine (refRequest_any _ _ _).mono ?_); rintro e w2 ⟨rfl, hw2⟩; obtain ⟨hcw2, hfw2⟩ := bcell hw2; (try (simp only [World.size_drew, World.cell?_drew, World.frozen?_drew] at hcw2 hfw2)); have hzw2 := hw2.size; (try (simp only [World.size_alloc, World.size_setCell, World.size_drew] at hzw2)); (try (have hzw2_w_0 : w.heap.size < w2.heap.size := by omega)); (try (have hzw2_w_1 : w.heap.size + 1 < w2.heap.size := by omega)); (try (have hzw2_w_2 : w.heap.size + 1 + 1 < w2.heap.size := by omega)); (try (have hzw2_w_3 : w.heap.size + 1 + 1 + 1 < w2.heap.size := by omega)); (try (have hyw2_w : w.heap.size ≤ w2.heap.size := by omega)); (try (have hyw2_wa : w.heap.size + 1 ≤ w2.heap.size := by omega))
    go_wp2_with (go_at_call 12; refine (num_any _ _).mono ?_; rintro e w' ⟨rfl, rfl⟩)
    go_loopw [9] (fun i wr => ∃ k : Nat, k ≤ len ∧ i = .int .i64 k ∧ Below w.heap.size w wr) (fun i _ => len - (intOf i).toNat)
    case atStart =>
      refine ⟨0, by omega, rfl, ?_⟩
      repeat (first | exact Below.refl _ _ | assumption | refine Below.alloc ?_ (by first | (simp; done) | (simp; omega) | omega) _ | refine Below.setCell ?_ (by first | (simp; done) | (simp; omega) | omega) _ | apply Below.drew | refine Below.trans ?_ (Below.mono (by assumption) (by first | (simp; done) | (simp; omega) | omega)))
    case round =>
      obtain ⟨k, hk, rfl, hB⟩ := hrel
      have hsz := hB.size
      by_cases hlt : k < len
      · obtain ⟨rfl, hb⟩ := unhide HA (by omega)
        obtain ⟨c1, wf1⟩ := unhide HC k hlt
        have hcell : wr.cell? ⟨b, o + k, none⟩ = some (.int .u64 (z k)) := (hB.cell (p := ⟨b, o + k, none⟩) hb).trans c1
        clear c1
        have bd := wf_u64 wf1
        have hbr : b < wr.heap.size := Nat.lt_of_lt_of_le hb hB.size
        by_cases hq : ofReqB (z k) = true
        · have q1 : (ofReqE (z k) == 0) = true := by simp [ofReqE, hq]
          clear HA HC
          go_wp2_with fail
          (refine (ofRequest_any _ _ bd.1 bd.2).mono ?_); rintro e w3 ⟨rfl, hw3⟩; obtain ⟨hcw3, hfw3⟩ := bcell hw3; (try (simp only [World.size_drew, World.cell?_drew, World.frozen?_drew] at hcw3 hfw3)); have hzw3 := hw3.size; (try (simp only [World.size_alloc, World.size_setCell, World.size_drew] at hzw3)); (try (have hzw3_w_0 : w.heap.size < w3.heap.size := by omega)); (try (have hzw3_w_1 : w.heap.size + 1 < w3.heap.size := by omega)); (try (have hzw3_w_2 : w.heap.size + 1 + 1 < w3.heap.size := by omega)); (try (have hzw3_w_3 : w.heap.size + 1 + 1 + 1 < w3.heap.size := by omega)); (try (have hyw3_w : w.heap.size ≤ w3.heap.size := by omega)); (try (have hyw3_wa : w.heap.size + 1 ≤ w3.heap.size := by omega)); (try (have hzw3_wr_0 : wr.heap.size < w3.heap.size := by omega)); (try (have hzw3_wr_1 : wr.heap.size + 1 < w3.heap.size := by omega)); (try (have hzw3_wr_2 : wr.heap.size + 1 + 1 < w3.heap.size := by omega)); (try (have hzw3_wr_3 : wr.heap.size + 1 + 1 + 1 < w3.heap.size := by omega)); (try (have hyw3_wr : wr.heap.size ≤ w3.heap.size := by omega)); (try (have hyw3_wra : wr.heap.size + 1 ≤ w3.heap.size := by omega))
          (have hbw3 : b < w3.heap.size := by omega); (have hblw3 : b ≤ w3.heap.size := by omega)
          go_wp2_with fail
          (refine (refOfRequest_any _ _ bd.1 bd.2).mono ?_); rintro e w4 ⟨rfl, hw4⟩; obtain ⟨hcw4, hfw4⟩ := bcell hw4; (try (simp only [World.size_drew, World.cell?_drew, World.frozen?_drew] at hcw4 hfw4)); have hzw4 := hw4.size; (try (simp only [World.size_alloc, World.size_setCell, World.size_drew] at hzw4)); (try (have hzw4_w_0 : w.heap.size < w4.heap.size := by omega)); (try (have hzw4_w_1 : w.heap.size + 1 < w4.heap.size := by omega)); (try (have hzw4_w_2 : w.heap.size + 1 + 1 < w4.heap.size := by omega)); (try (have hzw4_w_3 : w.heap.size + 1 + 1 + 1 < w4.heap.size := by omega)); (try (have hyw4_w : w.heap.size ≤ w4.heap.size := by omega)); (try (have hyw4_wa : w.heap.size + 1 ≤ w4.heap.size := by omega)); (try (have hzw4_wr_0 : wr.heap.size < w4.heap.size := by omega)); (try (have hzw4_wr_1 : wr.heap.size + 1 < w4.heap.size := by omega)); (try (have hzw4_wr_2 : wr.heap.size + 1 + 1 < w4.heap.size := by omega)); (try (have hzw4_wr_3 : wr.heap.size + 1 + 1 + 1 < w4.heap.size := by omega)); (try (have hyw4_wr : wr.heap.size ≤ w4.heap.size := by omega)); (try (have hyw4_wra : wr.heap.size + 1 ≤ w4.heap.size := by omega)); (try (have hzw4_w3_0 : w3.heap.size < w4.heap.size := by omega)); (try (have hzw4_w3_1 : w3.heap.size + 1 < w4.heap.size := by omega)); (try (have hzw4_w3_2 : w3.heap.size + 1 + 1 < w4.heap.size := by omega)); (try (have hzw4_w3_3 : w3.heap.size + 1 + 1 + 1 < w4.heap.size := by omega)); (try (have hyw4_w3 : w3.heap.size ≤ w4.heap.size := by omega)); (try (have hyw4_w3a : w3.heap.size + 1 ≤ w4.heap.size := by omega))
          (have hbw4 : b < w4.heap.size := by omega); (have hblw4 : b ≤ w4.heap.size := by omega)
          go_wp2_with (go_at_call 12; refine (num_any _ _).mono ?_; rintro e w' ⟨rfl, rfl⟩)
          (refine (reqOf _ hq _).mono ?_); rintro e w5 ⟨rfl, hw5⟩; obtain ⟨hcw5, hfw5⟩ := bcell hw5; (try (simp only [World.size_drew, World.cell?_drew, World.frozen?_drew] at hcw5 hfw5)); have hzw5 := hw5.size; (try (simp only [World.size_alloc, World.size_setCell, World.size_drew] at hzw5)); (try (have hzw5_w_0 : w.heap.size < w5.heap.size := by omega)); (try (have hzw5_w_1 : w.heap.size + 1 < w5.heap.size := by omega)); (try (have hzw5_w_2 : w.heap.size + 1 + 1 < w5.heap.size := by omega)); (try (have hzw5_w_3 : w.heap.size + 1 + 1 + 1 < w5.heap.size := by omega)); (try (have hyw5_w : w.heap.size ≤ w5.heap.size := by omega)); (try (have hyw5_wa : w.heap.size + 1 ≤ w5.heap.size := by omega)); (try (have hzw5_wr_0 : wr.heap.size < w5.heap.size := by omega)); (try (have hzw5_wr_1 : wr.heap.size + 1 < w5.heap.size := by omega)); (try (have hzw5_wr_2 : wr.heap.size + 1 + 1 < w5.heap.size := by omega)); (try (have hzw5_wr_3 : wr.heap.size + 1 + 1 + 1 < w5.heap.size := by omega)); (try (have hyw5_wr : wr.heap.size ≤ w5.heap.size := by omega)); (try (have hyw5_wra : wr.heap.size + 1 ≤ w5.heap.size := by omega)); (try (have hzw5_w3_0 : w3.heap.size < w5.heap.size := by omega)); (try (have hzw5_w3_1 : w3.heap.size + 1 < w5.heap.size := by omega)); (try (have hzw5_w3_2 : w3.heap.size + 1 + 1 < w5.heap.size := by omega)); (try (have hzw5_w3_3 : w3.heap.size + 1 + 1 + 1 < w5.heap.size := by omega)); (try (have hyw5_w3 : w3.heap.size ≤ w5.heap.size := by omega)); (try (have hyw5_w3a : w3.heap.size + 1 ≤ w5.heap.size := by omega)); (try (have hzw5_w4_0 : w4.heap.size < w5.heap.size := by omega)); (try (have hzw5_w4_1 : w4.heap.size + 1 < w5.heap.size := by omega)); (try (have hzw5_w4_2 : w4.heap.size + 1 + 1 < w5.heap.size := by omega)); (try (have hzw5_w4_3 : w4.heap.size + 1 + 1 + 1 < w5.heap.size := by omega)); (try (have hyw5_w4 : w4.heap.size ≤ w5.heap.size := by omega)); (try (have hyw5_w4a : w4.heap.size + 1 ≤ w5.heap.size := by omega))
          (have hbw5 : b < w5.heap.size := by omega); (have hblw5 : b ≤ w5.heap.size := by omega)
          go_wp2_with (go_at_call 12; refine (num_any _ _).mono ?_; rintro e w' ⟨rfl, rfl⟩)
          go_roundw
          case rel =>
            refine ⟨k + 1, by omega, by go_num, ?_⟩
            repeat (first | exact Below.refl _ _ | assumption | refine Below.alloc ?_ (by first | (simp; done) | (simp; omega) | omega) _ | refine Below.setCell ?_ (by first | (simp; done) | (simp; omega) | omega) _ | apply Below.drew | refine Below.trans ?_ (Below.mono (by assumption) (by first | (simp; done) | (simp; omega) | omega)))
          case measure => simp [intOf]; omega
        · have q1 : (ofReqE (z k) == 0) = false := by simp [ofReqE, hq]
          clear HA HC
          go_wp2_with fail
          (refine (ofRequest_any _ _ bd.1 bd.2).mono ?_); rintro e w3 ⟨rfl, hw3⟩; obtain ⟨hcw3, hfw3⟩ := bcell hw3; (try (simp only [World.size_drew, World.cell?_drew, World.frozen?_drew] at hcw3 hfw3)); have hzw3 := hw3.size; (try (simp only [World.size_alloc, World.size_setCell, World.size_drew] at hzw3)); (try (have hzw3_w_0 : w.heap.size < w3.heap.size := by omega)); (try (have hzw3_w_1 : w.heap.size + 1 < w3.heap.size := by omega)); (try (have hzw3_w_2 : w.heap.size + 1 + 1 < w3.heap.size := by omega)); (try (have hzw3_w_3 : w.heap.size + 1 + 1 + 1 < w3.heap.size := by omega)); (try (have hyw3_w : w.heap.size ≤ w3.heap.size := by omega)); (try (have hyw3_wa : w.heap.size + 1 ≤ w3.heap.size := by omega)); (try (have hzw3_wr_0 : wr.heap.size < w3.heap.size := by omega)); (try (have hzw3_wr_1 : wr.heap.size + 1 < w3.heap.size := by omega)); (try (have hzw3_wr_2 : wr.heap.size + 1 + 1 < w3.heap.size := by omega)); (try (have hzw3_wr_3 : wr.heap.size + 1 + 1 + 1 < w3.heap.size := by omega)); (try (have hyw3_wr : wr.heap.size ≤ w3.heap.size := by omega)); (try (have hyw3_wra : wr.heap.size + 1 ≤ w3.heap.size := by omega))
          (have hbw3 : b < w3.heap.size := by omega); (have hblw3 : b ≤ w3.heap.size := by omega)
          go_wp2_with fail
          (refine (refOfRequest_any _ _ bd.1 bd.2).mono ?_); rintro e w4 ⟨rfl, hw4⟩; obtain ⟨hcw4, hfw4⟩ := bcell hw4; (try (simp only [World.size_drew, World.cell?_drew, World.frozen?_drew] at hcw4 hfw4)); have hzw4 := hw4.size; (try (simp only [World.size_alloc, World.size_setCell, World.size_drew] at hzw4)); (try (have hzw4_w_0 : w.heap.size < w4.heap.size := by omega)); (try (have hzw4_w_1 : w.heap.size + 1 < w4.heap.size := by omega)); (try (have hzw4_w_2 : w.heap.size + 1 + 1 < w4.heap.size := by omega)); (try (have hzw4_w_3 : w.heap.size + 1 + 1 + 1 < w4.heap.size := by omega)); (try (have hyw4_w : w.heap.size ≤ w4.heap.size := by omega)); (try (have hyw4_wa : w.heap.size + 1 ≤ w4.heap.size := by omega)); (try (have hzw4_wr_0 : wr.heap.size < w4.heap.size := by omega)); (try (have hzw4_wr_1 : wr.heap.size + 1 < w4.heap.size := by omega)); (try (have hzw4_wr_2 : wr.heap.size + 1 + 1 < w4.heap.size := by omega)); (try (have hzw4_wr_3 : wr.heap.size + 1 + 1 + 1 < w4.heap.size := by omega)); (try (have hyw4_wr : wr.heap.size ≤ w4.heap.size := by omega)); (try (have hyw4_wra : wr.heap.size + 1 ≤ w4.heap.size := by omega)); (try (have hzw4_w3_0 : w3.heap.size < w4.heap.size := by omega)); (try (have hzw4_w3_1 : w3.heap.size + 1 < w4.heap.size := by omega)); (try (have hzw4_w3_2 : w3.heap.size + 1 + 1 < w4.heap.size := by omega)); (try (have hzw4_w3_3 : w3.heap.size + 1 + 1 + 1 < w4.heap.size := by omega)); (try (have hyw4_w3 : w3.heap.size ≤ w4.heap.size := by omega)); (try (have hyw4_w3a : w3.heap.size + 1 ≤ w4.heap.size := by omega))
          (have hbw4 : b < w4.heap.size := by omega); (have hblw4 : b ≤ w4.heap.size := by omega)
          go_wp2_with (go_at_call 12; refine (num_any _ _).mono ?_; rintro e w' ⟨rfl, rfl⟩)
          (refine (request_any _ _ _).mono ?_); rintro e w5 ⟨rfl, hw5⟩; obtain ⟨hcw5, hfw5⟩ := bcell hw5; (try (simp only [World.size_drew, World.cell?_drew, World.frozen?_drew] at hcw5 hfw5)); have hzw5 := hw5.size; (try (simp only [World.size_alloc, World.size_setCell, World.size_drew] at hzw5)); (try (have hzw5_w_0 : w.heap.size < w5.heap.size := by omega)); (try (have hzw5_w_1 : w.heap.size + 1 < w5.heap.size := by omega)); (try (have hzw5_w_2 : w.heap.size + 1 + 1 < w5.heap.size := by omega)); (try (have hzw5_w_3 : w.heap.size + 1 + 1 + 1 < w5.heap.size := by omega)); (try (have hyw5_w : w.heap.size ≤ w5.heap.size := by omega)); (try (have hyw5_wa : w.heap.size + 1 ≤ w5.heap.size := by omega)); (try (have hzw5_wr_0 : wr.heap.size < w5.heap.size := by omega)); (try (have hzw5_wr_1 : wr.heap.size + 1 < w5.heap.size := by omega)); (try (have hzw5_wr_2 : wr.heap.size + 1 + 1 < w5.heap.size := by omega)); (try (have hzw5_wr_3 : wr.heap.size + 1 + 1 + 1 < w5.heap.size := by omega)); (try (have hyw5_wr : wr.heap.size ≤ w5.heap.size := by omega)); (try (have hyw5_wra : wr.heap.size + 1 ≤ w5.heap.size := by omega)); (try (have hzw5_w3_0 : w3.heap.size < w5.heap.size := by omega)); (try (have hzw5_w3_1 : w3.heap.size + 1 < w5.heap.size := by omega)); (try (have hzw5_w3_2 : w3.heap.size + 1 + 1 < w5.heap.size := by omega)); (try (have hzw5_w3_3 : w3.heap.size + 1 + 1 + 1 < w5.heap.size := by omega)); (try (have hyw5_w3 : w3.heap.size ≤ w5.heap.size := by omega)); (try (have hyw5_w3a : w3.heap.size + 1 ≤ w5.heap.size := by omega)); (try (have hzw5_w4_0 : w4.heap.size < w5.heap.size := by omega)); (try (have hzw5_w4_1 : w4.heap.size + 1 < w5.heap.size := by omega)); (try (have hzw5_w4_2 : w4.heap.size + 1 + 1 < w5.heap.size := by omega)); (try (have hzw5_w4_3 : w4.heap.size + 1 + 1 + 1 < w5.heap.size := by omega)); (try (have hyw5_w4 : w4.heap.size ≤ w5.heap.size := by omega)); (try (have hyw5_w4a : w4.heap.size + 1 ≤ w5.heap.size := by omega))
          (have hbw5 : b < w5.heap.size := by omega); (have hblw5 : b ≤ w5.heap.size := by omega)
          go_wp2_with (go_at_call 12; refine (num_any _ _).mono ?_; rintro e w' ⟨rfl, rfl⟩)
          go_roundw
          case rel =>
            refine ⟨k + 1, by omega, by go_num, ?_⟩
            repeat (first | exact Below.refl _ _ | assumption | refine Below.alloc ?_ (by first | (simp; done) | (simp; omega) | omega) _ | refine Below.setCell ?_ (by first | (simp; done) | (simp; omega) | omega) _ | apply Below.drew | refine Below.trans ?_ (Below.mono (by assumption) (by first | (simp; done) | (simp; omega) | omega)))
          case measure => simp [intOf]; omega
      · have hge : ¬ ((k : Int) < (len : Int)) := by omega
        go_wp2_with (go_at_call 9; refine (works_any _).mono ?_; rintro e ww ⟨rfl, hww⟩; obtain ⟨hcww, hfww⟩ := bcell hww; (try (simp only [World.size_drew, World.cell?_drew, World.frozen?_drew] at hcww hfww)); have hzww := hww.size; (try (simp only [World.size_alloc, World.size_setCell, World.size_drew] at hzww)); (try (have hzww_w_0 : w.heap.size < ww.heap.size := by omega)); (try (have hzww_w_1 : w.heap.size + 1 < ww.heap.size := by omega)); (try (have hzww_w_2 : w.heap.size + 1 + 1 < ww.heap.size := by omega)); (try (have hzww_w_3 : w.heap.size + 1 + 1 + 1 < ww.heap.size := by omega)); (try (have hyww_w : w.heap.size ≤ ww.heap.size := by omega)); (try (have hyww_wa : w.heap.size + 1 ≤ ww.heap.size := by omega)))
        go_ret
        refine ⟨rfl, ?_⟩
        repeat (first | exact Below.refl _ _ | assumption | refine Below.alloc ?_ (by first | (simp; done) | (simp; omega) | omega) _ | refine Below.setCell ?_ (by first | (simp; done) | (simp; omega) | omega) _ | apply Below.drew | refine Below.trans ?_ (Below.mono (by assumption) (by first | (simp; done) | (simp; omega) | omega)))
end Go.Proofs.Ythkfcleigidihaa
