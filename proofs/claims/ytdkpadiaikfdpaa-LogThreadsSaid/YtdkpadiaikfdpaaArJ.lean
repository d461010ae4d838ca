/- The walks of the reference of package arena: a word put into a copy. -/
import Derived.Test.YtdkpadiaikfdpaaArH
import Derived.Test.YtdkpadiaikfdpaaArD
import Derived.Deep.AppendSrc
import Derived.Deep.Upon
import Derived.Lib.AppendZeros
import Derived.OwnWalk
namespace Go.Proofs.Ytdkpadiaikfdpaa
set_option linter.unusedVariables false
set_option linter.unusedSimpArgs false
open Go.RowKit

theorem clone_run (B off n cap : Nat) (xs : Nat → Int) (hn1 : 1 ≤ n) (hn2 : n ≤ 16384) (W : World) (hc : ∀ i, i < n → W.cell? ⟨B, off + i, none⟩ = some (.int .u64 (xs i))) :
    ∃ C W', (Builtin.append_ #[22, 22] 22 #[.slice none 0 0, .slice (some ⟨B, off, none⟩) n cap]).run Try.prog W = .ok (.slice (some ⟨W.heap.size, 0, none⟩) n C) W' ∧ Below W.heap.size W W' ∧ W.heap.size < W'.heap.size ∧
      ∀ i, i < n → W'.cell? ⟨W.heap.size, i, none⟩ = some (.int .u64 (xs i)) ∧ W'.frozen? ⟨W.heap.size, i, none⟩ = false := by
  obtain ⟨i0, hi, hz0, hz1, hz2⟩ := info_parts info_u64
  have hs : Src Try.prog i0.size 22 (.slice (some ⟨B, off, none⟩) n cap) n (wordsL n xs) W := by
    refine Src.ofSlice W Try.underlying22 _ n cap _ (by rw [wordsL_len, hz1, Nat.mul_one]) (fun j u hj => ?_) (fun u hu => ?_)
    · obtain ⟨hj1, rfl⟩ := wordsL_get hj
      rw [Addr.add_lit]
      exact hc j hj1
    · obtain ⟨j, hj⟩ := List.mem_iff_getElem?.1 hu
      obtain ⟨_, rfl⟩ := wordsL_get hj
      rfl
  have hrun := run_append_grow_src (P := Try.prog) W 22 22 22 40 i0 _ Try.underlying22 hi hz0 none 0 0 [] (run_firstCells_none W.drew i0.size 0 0 0) _ n (wordsL n xs) hs (by omega) (by omega)
    (growslice_fits (by omega) (by rw [hz2]; omega))
  simp only [Nat.zero_add] at hrun
  refine ⟨_, _, hrun, ?_, ?_, fun i hi => ⟨?_, ?_⟩⟩
  · exact Below.alloc (Below.refl _ _).drew (Nat.le_refl _) _
  · simp
  · have e1 := World.cell?_alloc_new W.drew (([] ++ wordsL n xs).toArray ++ Builtin.zeroCells (Value.cells (.int .u64 0)) (grownCap W n 0 40 - n)) 40 i
    refine e1.trans ?_
    rw [Array.getElem?_append_left (by simp [wordsL_len]; omega), List.getElem?_toArray]
    simp [wordsL, hi]
  · exact World.frozen?_alloc_new W.drew _ _ i


set_option maxHeartbeats 4000000 in
theorem put_any (B off n cap : Nat) (xs : Nat → Int) (hn1 : 1 ≤ n) (hn2 : n ≤ 16384) (a : Nat) (ha : a < n) (v : Int) (w : World) (hc : ∀ i, i < n → w.cell? ⟨B, off + i, none⟩ = some (.int .u64 (xs i))) :
    Calls Try.prog 48 #[.slice (some ⟨B, off, none⟩) n cap, .int .i64 (a : Int), .int .u64 v] w fun e w' => ∃ C, e = .returned (.slice (some ⟨w.heap.size, 0, none⟩) n C) ∧ Below w.heap.size w w' ∧ w.heap.size < w'.heap.size ∧
      ∀ i, i < n → w'.cell? ⟨w.heap.size, 0 + i, none⟩ = some (.int .u64 (upd xs a v i)) := by
  obtain ⟨C, W1, hrun, hb, hs, hcell⟩ := clone_run B off n cap xs hn1 hn2 w hc
  have HC := hide hcell
  have ca := (hcell a ha).1
  have fa := (hcell a ha).2
  have b0 : (0 : Int) ≤ (a : Int) := by omega
  have b1 : (a : Int) < (n : Int) := by omega
  clear hc hcell
  go_enter Try.func48, Try.ntmps48
  go_wp2_with (at_builtin; refine Lib.wpList_append_run _ rfl _ _ _ _ rfl _ _ rfl rfl _ _ hrun ?_)
  go_ret
  refine ⟨C, rfl, hb.setCell (p := ⟨w.heap.size, a, none⟩) (Nat.le_refl _) _, by simpa using hs, fun i hi => ?_⟩
  rw [Nat.zero_add]
  by_cases e : i = a
  · subst e
    rw [World.cell?_setCell_same _ _ _ ca]
    simp [upd]
  · rw [World.cell?_setCell_other _ _ _ _ (fun k => e (by injection k with _ k _; exact k.symm))]
    rw [(unhide HC i hi).1]
    simp [upd, e]

/-- What the reference's answer is in memory: words n, the answer, the error. -/
def RefTo (w w' : World) (B n : Nat) (ys : Nat → Int) (x e : Int) (r : Ending) : Prop :=
  ∃ B' off' C, r = .returned (.tuple #[.slice (some ⟨B', off', none⟩) n C, .int .u64 x, .int .i64 e]) ∧ Below w.heap.size w w' ∧ B' < w'.heap.size ∧ (B' = B ∨ w.heap.size ≤ B') ∧ ∀ i, i < n → w'.cell? ⟨B', off' + i, none⟩ = some (.int .u64 (ys i))

theorem RefTo.same {w w' : World} {B off n C : Nat} {xs : Nat → Int} {x e : Int} (hB : B < w.heap.size) (hc : ∀ i, i < n → w.cell? ⟨B, off + i, none⟩ = some (.int .u64 (xs i))) (hb : Below w.heap.size w w') :
    RefTo w w' B n xs x e (.returned (.tuple #[.slice (some ⟨B, off, none⟩) n C, .int .u64 x, .int .i64 e])) :=
  ⟨B, off, C, rfl, hb, Nat.lt_of_lt_of_le hB hb.size, .inl rfl, fun i hi => (hb.cell (p := ⟨B, off + i, none⟩) hB).trans (hc i hi)⟩

theorem cells_grown {P Q : World} {h b off n : Nat} {xs : Nat → Int} (hg : P.grownBy Q (some h)) (hb : b < P.heap.size) (hne : b ≠ h) (hc : ∀ i, i < n → P.cell? ⟨b, off + i, none⟩ = some (.int .u64 (xs i))) :
    ∀ i, i < n → Q.cell? ⟨b, off + i, none⟩ = some (.int .u64 (xs i)) := fun i hi =>
  (World.cell?_of_block (a := ⟨b, off + i, none⟩) (hg.block b hb (by simpa using fun e => hne (by omega)))).trans (hc i hi)

set_option maxHeartbeats 8000000 in
theorem refDo_any (B off n cap : Nat) (xs : Nat → Int) (hn1 : 1 ≤ n) (hn2 : n ≤ 16384) (k a o v : Int) (w : World) (hB : B < w.heap.size) (hc : ∀ i, i < n → w.cell? ⟨B, off + i, none⟩ = some (.int .u64 (xs i))) :
    Calls Try.prog 35 #[.slice (some ⟨B, off, none⟩) n cap, .agg #[.int .i64 k, .int .i64 a, .int .u64 o, .int .u64 v]] w fun e w' => RefTo w w' B n (doX n xs k a o v) (doA n xs k a o v) (doE n k a o v) e := by
  have HC := hide hc
  clear hc
  have hck : ∀ W, Calls Try.prog 47 #[.agg #[.int .i64 k, .int .i64 a, .int .u64 o, .int .u64 v]] W fun e w' => e = .returned (.int .i64 (chkE k a o v)) ∧ Below W.heap.size W w' := fun W => refCheck_any k a o v W
  by_cases hb : accB k a o v = true
  · have hh := accB_iff.1 hb
    rw [show chkE k a o v = 0 by simp [chkE, hb]] at hck
    by_cases hk : k = 0
    · subst hk
      obtain rfl : a = 0 := by omega
      obtain rfl : o = 0 := by omega
      obtain rfl : v = 0 := by omega
      have e1 : doE n 0 0 0 0 = 0 := by simp [doE, hb]
      rw [show doA n xs 0 0 0 0 = 0 by simp [doA, e1], e1, show doX n xs 0 0 0 0 = xs by simp [doX]]
      clear hh hb e1
      go_enter Try.func35, Try.ntmps35
      go_wp2_with fail
      (refine (hck _).mono ?_); rintro e w1 ⟨rfl, hw1⟩; obtain ⟨hcw1, hfw1⟩ := bcell hw1; (try (simp only [World.size_drew, World.cell?_drew, World.frozen?_drew] at hcw1 hfw1)); have hzw1 := hw1.size; (try (simp only [World.size_alloc, World.size_setCell, World.size_drew] at hzw1)); (try (have hzw1_w_0 : w.heap.size < w1.heap.size := by omega)); (try (have hzw1_w_1 : w.heap.size + 1 < w1.heap.size := by omega)); (try (have hzw1_w_2 : w.heap.size + 1 + 1 < w1.heap.size := by omega)); (try (have hzw1_w_3 : w.heap.size + 1 + 1 + 1 < w1.heap.size := by omega)); (try (have hyw1_w : w.heap.size ≤ w1.heap.size := by omega)); (try (have hyw1_wa : w.heap.size + 1 ≤ w1.heap.size := by omega))
      go_wp2
      go_ret3
      exact RefTo.same hB (unhide HC) (by repeat (first | exact Below.refl _ _ | assumption | refine Below.alloc ?_ (by first | (simp; done) | (simp; omega) | omega) _ | refine Below.setCell ?_ (by first | (simp; done) | (simp; omega) | omega) _ | apply Below.drew | refine Below.trans ?_ (Below.mono (by assumption) (by first | (simp; done) | (simp; omega) | omega))))
    · by_cases hr : a < 0 ∨ (n : Int) ≤ a
      · have e1 : doE n k a o v = 4 := by unfold doE; rw [if_pos hb, if_neg hk, if_pos hr]
        rw [show doA n xs k a o v = 0 by simp [doA, e1], e1, show doX n xs k a o v = xs by simp [doX, e1]]
        clear hh hb e1
        rcases hr with hr | hr
        · have hk2 : ((k : Int) == 0) = false := by simpa using hk
          go_enter Try.func35, Try.ntmps35
          go_wp2_with fail
          (refine (hck _).mono ?_); rintro e w1 ⟨rfl, hw1⟩; obtain ⟨hcw1, hfw1⟩ := bcell hw1; (try (simp only [World.size_drew, World.cell?_drew, World.frozen?_drew] at hcw1 hfw1)); have hzw1 := hw1.size; (try (simp only [World.size_alloc, World.size_setCell, World.size_drew] at hzw1)); (try (have hzw1_w_0 : w.heap.size < w1.heap.size := by omega)); (try (have hzw1_w_1 : w.heap.size + 1 < w1.heap.size := by omega)); (try (have hzw1_w_2 : w.heap.size + 1 + 1 < w1.heap.size := by omega)); (try (have hzw1_w_3 : w.heap.size + 1 + 1 + 1 < w1.heap.size := by omega)); (try (have hyw1_w : w.heap.size ≤ w1.heap.size := by omega)); (try (have hyw1_wa : w.heap.size + 1 ≤ w1.heap.size := by omega))
          go_wp2
          go_ret3
          exact RefTo.same hB (unhide HC) (by repeat (first | exact Below.refl _ _ | assumption | refine Below.alloc ?_ (by first | (simp; done) | (simp; omega) | omega) _ | refine Below.setCell ?_ (by first | (simp; done) | (simp; omega) | omega) _ | apply Below.drew | refine Below.trans ?_ (Below.mono (by assumption) (by first | (simp; done) | (simp; omega) | omega))))
        · have hk2 : ((k : Int) == 0) = false := by simpa using hk
          have hr2 : ¬ a < 0 := by omega
          go_enter Try.func35, Try.ntmps35
          go_wp2_with fail
          (refine (hck _).mono ?_); rintro e w1 ⟨rfl, hw1⟩; obtain ⟨hcw1, hfw1⟩ := bcell hw1; (try (simp only [World.size_drew, World.cell?_drew, World.frozen?_drew] at hcw1 hfw1)); have hzw1 := hw1.size; (try (simp only [World.size_alloc, World.size_setCell, World.size_drew] at hzw1)); (try (have hzw1_w_0 : w.heap.size < w1.heap.size := by omega)); (try (have hzw1_w_1 : w.heap.size + 1 < w1.heap.size := by omega)); (try (have hzw1_w_2 : w.heap.size + 1 + 1 < w1.heap.size := by omega)); (try (have hzw1_w_3 : w.heap.size + 1 + 1 + 1 < w1.heap.size := by omega)); (try (have hyw1_w : w.heap.size ≤ w1.heap.size := by omega)); (try (have hyw1_wa : w.heap.size + 1 ≤ w1.heap.size := by omega))
          go_wp2
          go_ret3
          exact RefTo.same hB (unhide HC) (by repeat (first | exact Below.refl _ _ | assumption | refine Below.alloc ?_ (by first | (simp; done) | (simp; omega) | omega) _ | refine Below.setCell ?_ (by first | (simp; done) | (simp; omega) | omega) _ | apply Below.drew | refine Below.trans ?_ (Below.mono (by assumption) (by first | (simp; done) | (simp; omega) | omega))))
      · have e1 : doE n k a o v = 0 := by unfold doE; rw [if_pos hb, if_neg hk, if_neg hr]
        obtain ⟨i, rfl⟩ := Int.eq_ofNat_of_zero_le (show 0 ≤ a by omega)
        have hi : i < n := by omega
        have b0 : (0 : Int) ≤ (i : Int) := by omega
        have b1 : (i : Int) < (n : Int) := by omega
        have b2 : ¬ (i : Int) < 0 := by omega
        have b3 : ¬ (n : Int) ≤ (i : Int) := by omega
        have c0 := unhide HC i hi
        rcases (show k = 1 ∨ k = 2 ∨ k = 3 by omega) with rfl | rfl | rfl
        · obtain rfl : o = 0 := by omega
          obtain rfl : v = 0 := by omega
          rw [show doA n xs 1 (i : Int) 0 0 = xs i by simp [doA, e1], e1, show doX n xs 1 (i : Int) 0 0 = xs by simp [doX]]
          clear hh hb e1 hk hr
          go_enter Try.func35, Try.ntmps35
          go_wp2_with fail
          (refine (hck _).mono ?_); rintro e w1 ⟨rfl, hw1⟩; obtain ⟨hcw1, hfw1⟩ := bcell hw1; (try (simp only [World.size_drew, World.cell?_drew, World.frozen?_drew] at hcw1 hfw1)); have hzw1 := hw1.size; (try (simp only [World.size_alloc, World.size_setCell, World.size_drew] at hzw1)); (try (have hzw1_w_0 : w.heap.size < w1.heap.size := by omega)); (try (have hzw1_w_1 : w.heap.size + 1 < w1.heap.size := by omega)); (try (have hzw1_w_2 : w.heap.size + 1 + 1 < w1.heap.size := by omega)); (try (have hzw1_w_3 : w.heap.size + 1 + 1 + 1 < w1.heap.size := by omega)); (try (have hyw1_w : w.heap.size ≤ w1.heap.size := by omega)); (try (have hyw1_wa : w.heap.size + 1 ≤ w1.heap.size := by omega))
          go_wp2
          go_ret3
          exact RefTo.same hB (unhide HC) (by repeat (first | exact Below.refl _ _ | assumption | refine Below.alloc ?_ (by first | (simp; done) | (simp; omega) | omega) _ | refine Below.setCell ?_ (by first | (simp; done) | (simp; omega) | omega) _ | apply Below.drew | refine Below.trans ?_ (Below.mono (by assumption) (by first | (simp; done) | (simp; omega) | omega))))
        · obtain rfl : o = 0 := by omega
          rw [show doA n xs 2 (i : Int) 0 v = 0 by simp [doA], e1, show doX n xs 2 (i : Int) 0 v = upd xs i v by simp [doX, e1]]
          clear hh hb e1 hk hr
          go_enter Try.func35, Try.ntmps35
          go_wp2_with fail
          (refine (hck _).mono ?_); rintro e w1 ⟨rfl, hw1⟩; obtain ⟨hcw1, hfw1⟩ := bcell hw1; (try (simp only [World.size_drew, World.cell?_drew, World.frozen?_drew] at hcw1 hfw1)); have hzw1 := hw1.size; (try (simp only [World.size_alloc, World.size_setCell, World.size_drew] at hzw1)); (try (have hzw1_w_0 : w.heap.size < w1.heap.size := by omega)); (try (have hzw1_w_1 : w.heap.size + 1 < w1.heap.size := by omega)); (try (have hzw1_w_2 : w.heap.size + 1 + 1 < w1.heap.size := by omega)); (try (have hzw1_w_3 : w.heap.size + 1 + 1 + 1 < w1.heap.size := by omega)); (try (have hyw1_w : w.heap.size ≤ w1.heap.size := by omega)); (try (have hyw1_wa : w.heap.size + 1 ≤ w1.heap.size := by omega))
          have HC1 := hide (fun i (hi : i < n) => (hcw1 B (off + i) (by simp; omega)).trans ((World.cell?_alloc_lt _ _ _ hB).trans (unhide HC i hi)))
          go_wp2_with fail
          refine (put_any B off n cap xs hn1 hn2 i hi v w1 (unhide HC1)).mono ?_
          rintro e w2 ⟨C, rfl, hb2, hs2, hput⟩
          have HP := hide hput
          clear hput
          go_wp2
          go_ret3
          exact ⟨w1.heap.size, 0, C, rfl, by repeat (first | exact Below.refl _ _ | assumption | refine Below.alloc ?_ (by first | (simp; done) | (simp; omega) | omega) _ | refine Below.setCell ?_ (by first | (simp; done) | (simp; omega) | omega) _ | apply Below.drew | refine Below.trans ?_ (Below.mono (by assumption) (by first | (simp; done) | (simp; omega) | omega))), hs2, .inr (by omega), unhide HP⟩
        · by_cases hx : xs i = o
          · rw [show doA n xs 3 (i : Int) o v = xs i by simp [doA, e1], e1, show doX n xs 3 (i : Int) o v = upd xs i v by simp [doX, e1, hx]]
            clear hh hb e1 hk hr
            subst hx
            go_enter Try.func35, Try.ntmps35
            go_wp2_with fail
            (refine (hck _).mono ?_); rintro e w1 ⟨rfl, hw1⟩; obtain ⟨hcw1, hfw1⟩ := bcell hw1; (try (simp only [World.size_drew, World.cell?_drew, World.frozen?_drew] at hcw1 hfw1)); have hzw1 := hw1.size; (try (simp only [World.size_alloc, World.size_setCell, World.size_drew] at hzw1)); (try (have hzw1_w_0 : w.heap.size < w1.heap.size := by omega)); (try (have hzw1_w_1 : w.heap.size + 1 < w1.heap.size := by omega)); (try (have hzw1_w_2 : w.heap.size + 1 + 1 < w1.heap.size := by omega)); (try (have hzw1_w_3 : w.heap.size + 1 + 1 + 1 < w1.heap.size := by omega)); (try (have hyw1_w : w.heap.size ≤ w1.heap.size := by omega)); (try (have hyw1_wa : w.heap.size + 1 ≤ w1.heap.size := by omega))
            have HC1 := hide (fun i (hi : i < n) => (hcw1 B (off + i) (by simp; omega)).trans ((World.cell?_alloc_lt _ _ _ hB).trans (unhide HC i hi)))
            go_wp2_with fail
            refine (put_any B off n cap xs hn1 hn2 i hi v w1 (unhide HC1)).mono ?_
            rintro e w2 ⟨C, rfl, hb2, hs2, hput⟩
            have HP := hide hput
            clear hput
            go_wp2
            go_ret3
            exact ⟨w1.heap.size, 0, C, rfl, by repeat (first | exact Below.refl _ _ | assumption | refine Below.alloc ?_ (by first | (simp; done) | (simp; omega) | omega) _ | refine Below.setCell ?_ (by first | (simp; done) | (simp; omega) | omega) _ | apply Below.drew | refine Below.trans ?_ (Below.mono (by assumption) (by first | (simp; done) | (simp; omega) | omega))), hs2, .inr (by omega), unhide HP⟩
          · rw [show doA n xs 3 (i : Int) o v = xs i by simp [doA, e1], e1, show doX n xs 3 (i : Int) o v = xs by simp [doX, hx]]
            clear hh hb e1 hk hr
            have hx2 : (xs i == o) = false := by simpa using hx
            go_enter Try.func35, Try.ntmps35
            go_wp2_with fail
            (refine (hck _).mono ?_); rintro e w1 ⟨rfl, hw1⟩; obtain ⟨hcw1, hfw1⟩ := bcell hw1; (try (simp only [World.size_drew, World.cell?_drew, World.frozen?_drew] at hcw1 hfw1)); have hzw1 := hw1.size; (try (simp only [World.size_alloc, World.size_setCell, World.size_drew] at hzw1)); (try (have hzw1_w_0 : w.heap.size < w1.heap.size := by omega)); (try (have hzw1_w_1 : w.heap.size + 1 < w1.heap.size := by omega)); (try (have hzw1_w_2 : w.heap.size + 1 + 1 < w1.heap.size := by omega)); (try (have hzw1_w_3 : w.heap.size + 1 + 1 + 1 < w1.heap.size := by omega)); (try (have hyw1_w : w.heap.size ≤ w1.heap.size := by omega)); (try (have hyw1_wa : w.heap.size + 1 ≤ w1.heap.size := by omega))
            go_wp2
            go_ret3
            exact RefTo.same hB (unhide HC) (by repeat (first | exact Below.refl _ _ | assumption | refine Below.alloc ?_ (by first | (simp; done) | (simp; omega) | omega) _ | refine Below.setCell ?_ (by first | (simp; done) | (simp; omega) | omega) _ | apply Below.drew | refine Below.trans ?_ (Below.mono (by assumption) (by first | (simp; done) | (simp; omega) | omega))))
  · have hb2 : accB k a o v = false := by simpa using hb
    have e1 : doE n k a o v = 2 := by simp [doE, hb2]
    rw [show doA n xs k a o v = 0 by simp [doA, e1], e1, show doX n xs k a o v = xs by simp [doX, e1]]
    rw [show chkE k a o v = 2 by simp [chkE, hb2]] at hck
    clear hb hb2 e1
    go_enter Try.func35, Try.ntmps35
    go_wp2_with fail
    (refine (hck _).mono ?_); rintro e w1 ⟨rfl, hw1⟩; obtain ⟨hcw1, hfw1⟩ := bcell hw1; (try (simp only [World.size_drew, World.cell?_drew, World.frozen?_drew] at hcw1 hfw1)); have hzw1 := hw1.size; (try (simp only [World.size_alloc, World.size_setCell, World.size_drew] at hzw1)); (try (have hzw1_w_0 : w.heap.size < w1.heap.size := by omega)); (try (have hzw1_w_1 : w.heap.size + 1 < w1.heap.size := by omega)); (try (have hzw1_w_2 : w.heap.size + 1 + 1 < w1.heap.size := by omega)); (try (have hzw1_w_3 : w.heap.size + 1 + 1 + 1 < w1.heap.size := by omega)); (try (have hyw1_w : w.heap.size ≤ w1.heap.size := by omega)); (try (have hyw1_wa : w.heap.size + 1 ≤ w1.heap.size := by omega))
    go_wp2
    go_ret3
    exact RefTo.same hB (unhide HC) (by repeat (first | exact Below.refl _ _ | assumption | refine Below.alloc ?_ (by first | (simp; done) | (simp; omega) | omega) _ | refine Below.setCell ?_ (by first | (simp; done) | (simp; omega) | omega) _ | apply Below.drew | refine Below.trans ?_ (Below.mono (by assumption) (by first | (simp; done) | (simp; omega) | omega))))
end Go.Proofs.Ytdkpadiaikfdpaa
