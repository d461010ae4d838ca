/- The walks of package pack, and of its reference: the names of phases, frontiers of words. -/
import Derived.Test.YtnnllhlcpmmcaaaPkD
namespace Go.Proofs.Ytnnllhlcpmmcaaa
set_option linter.unusedVariables false
set_option linter.unusedSimpArgs false
open Go.RowKit

def nameS (p : Int) : ByteArray :=
  if p = 0 then ⟨#[112, 108, 97, 105, 110]⟩ else if p = 1 then ⟨#[103, 117, 97, 114, 100]⟩ else if p = 2 then ⟨#[103, 117, 97, 114, 100, 101, 100]⟩ else if p = 3 then ⟨#[98, 108, 97, 99, 107]⟩ else
  if p = 4 then ⟨#[97, 119, 97, 114, 101]⟩ else if p = 5 then ⟨#[105, 110, 115, 116, 97, 108, 108]⟩ else if p = 6 then ⟨#[102, 108, 105, 112]⟩ else ⟨#[]⟩

theorem nameS_out {p : Int} (h : inB 6 [p] = false) : nameS p = ⟨#[]⟩ := by
  have hb : ¬ (0 ≤ p ∧ p ≤ 6) := fun k => by rw [inB1_iff.2 k] at h; cases h
  unfold nameS
  rw [if_neg (by omega), if_neg (by omega), if_neg (by omega), if_neg (by omega), if_neg (by omega), if_neg (by omega), if_neg (by omega)]

theorem nameS_in {p : Int} (h : inB 6 [p] = true) : (nameS p).toList.isEmpty = false := by
  have hb := inB1_iff.1 h
  have hp : p = 0 ∨ p = 1 ∨ p = 2 ∨ p = 3 ∨ p = 4 ∨ p = 5 ∨ p = 6 := by omega
  rcases hp with rfl | rfl | rfl | rfl | rfl | rfl | rfl <;> decide +kernel

structure FrontRes where
  s : Int
  l : Int
  h : Int
  o : Int
  e : Int

def ofS (w : Int) : Int := w % 2
def ofL (w : Int) : Int := w / 2 % 8192
def ofH (w : Int) : Int := w / 2 / 8192 % 8192
def ofO (w : Int) : Int := w / 2 / 8192 / 8192 % 8192
def ofFrontB (w : Int) : Bool := decide (w / 2 / 8192 / 8192 / 8192 = 0) && rightB (ofS w) (ofL w) (ofH w) (ofO w)
def ofFrontF (w : Int) : FrontRes := if ofFrontB w then ⟨ofS w, ofL w, ofH w, ofO w, 0⟩ else ⟨0, 0, 0, 0, 2⟩
def FrontRes.val (c : FrontRes) : Value := .tuple #[.agg #[.int .i64 c.s, .int .i64 c.l, .int .i64 c.h, .int .i64 c.o], .int .i64 c.e]

set_option maxHeartbeats 1000000 in
theorem take_any (b : Nat) (x many : Int) (w : World) (hx0 : 0 ≤ x) (hx : x ≤ 18446744073709551615) (hm : many = 2 ∨ many = 8192) (hc : w.cell? ⟨b, 0, none⟩ = some (.int .u64 x)) (hf : w.frozen? ⟨b, 0, none⟩ = false) :
    Calls Try.prog 71 #[.int .u64 many, .pointer (some ⟨b, 0, none⟩)] w fun e w' => e = .returned (.int .i64 (x % many)) ∧ w.setCell ⟨b, 0, none⟩ (.int .u64 (x / many)) = w' := by
  rcases hm with rfl | rfl
  all_goals
    go_enter Try.func71, Try.ntmps71
    go_wp2
    go_ret
    exact ⟨rfl, rfl⟩

set_option maxHeartbeats 4000000 in
theorem ofFront_any (x : Int) (w : World) (hx0 : 0 ≤ x) (hx : x ≤ 18446744073709551615) :
    Calls Try.prog 61 #[.int .u64 x] w fun e w' => e = .returned (ofFrontF x).val ∧ Below w.heap.size w w' := by
  by_cases h0 : x / 2 / 8192 / 8192 / 8192 = 0
  · have h0a : (x / 2 / 8192 / 8192 / 8192 != 0) = false := by simpa using h0
    by_cases h1 : rightB (x % 2) (x / 2 % 8192) (x / 2 / 8192 % 8192) (x / 2 / 8192 / 8192 % 8192) = true
    · have hv : Hid (ofFrontF x = ⟨x % 2, x / 2 % 8192, x / 2 / 8192 % 8192, x / 2 / 8192 / 8192 % 8192, 0⟩) := by unfold Hid; simp only [ofFrontF, ofFrontB, ofS, ofL, ofH, ofO, h1, h0]; simp
      clear h0
      go_enter Try.func61, Try.ntmps61
      go_wp2_with fail
      refine (take_any _ (x) 2 _ ?_ ?_ (by omega) ?_ ?_).mono ?_
      · omega
      · omega
      · go_simp
      · go_simp
      rintro e w' ⟨rfl, rfl⟩
      go_wp2_with fail
      refine (take_any _ (x / 2) 8192 _ ?_ ?_ (by omega) ?_ ?_).mono ?_
      · omega
      · omega
      · go_simp
      · go_simp
      rintro e w' ⟨rfl, rfl⟩
      go_wp2_with fail
      refine (take_any _ (x / 2 / 8192) 8192 _ ?_ ?_ (by omega) ?_ ?_).mono ?_
      · omega
      · omega
      · go_simp
      · go_simp
      rintro e w' ⟨rfl, rfl⟩
      go_wp2_with fail
      refine (take_any _ (x / 2 / 8192 / 8192) 8192 _ ?_ ?_ (by omega) ?_ ?_).mono ?_
      · omega
      · omega
      · go_simp
      · go_simp
      rintro e w' ⟨rfl, rfl⟩
      go_wp2_with fail
      (refine (right_any _ _ _ _ _).mono ?_); rintro e w1 ⟨rfl, hw1⟩; obtain ⟨hcw1, hfw1⟩ := bcell hw1; (try (simp only [World.size_drew, World.cell?_drew, World.frozen?_drew] at hcw1 hfw1)); have hzw1 := hw1.size; (try (simp only [World.size_alloc, World.size_setCell, World.size_drew] at hzw1)); (try (have hzw1_w_0 : w.heap.size < w1.heap.size := by omega)); (try (have hzw1_w_1 : w.heap.size + 1 < w1.heap.size := by omega)); (try (have hzw1_w_2 : w.heap.size + 1 + 1 < w1.heap.size := by omega)); (try (have hzw1_w_3 : w.heap.size + 1 + 1 + 1 < w1.heap.size := by omega)); (try (have hyw1_w : w.heap.size ≤ w1.heap.size := by omega)); (try (have hyw1_wa : w.heap.size + 1 ≤ w1.heap.size := by omega))
      go_wp2
      refine bodyPost_ret (v := .tuple #[.agg #[.int .i64 (x % 2), .int .i64 (x / 2 % 8192), .int .i64 (x / 2 / 8192 % 8192), .int .i64 (x / 2 / 8192 / 8192 % 8192)], .int .i64 0]) (by simp only [results, Try.results61]; go_simp) rfl ?_
      refine ⟨?_, ?_⟩
      · rw [hv.out]
        rfl
      · repeat (first | exact Below.refl _ _ | assumption | refine Below.alloc ?_ (by first | (simp; done) | (simp; omega) | omega) _ | refine Below.setCell ?_ (by first | (simp; done) | (simp; omega) | omega) _ | apply Below.drew | refine Below.trans ?_ (Below.mono (by assumption) (by first | (simp; done) | (simp; omega) | omega)))
    · have h1a : rightB (x % 2) (x / 2 % 8192) (x / 2 / 8192 % 8192) (x / 2 / 8192 / 8192 % 8192) = false := by simpa using h1
      have hv : Hid (ofFrontF x = ⟨0, 0, 0, 0, 2⟩) := by unfold Hid; simp only [ofFrontF, ofFrontB, ofS, ofL, ofH, ofO, h1a, h0]; simp
      clear h0
      go_enter Try.func61, Try.ntmps61
      go_wp2_with fail
      refine (take_any _ (x) 2 _ ?_ ?_ (by omega) ?_ ?_).mono ?_
      · omega
      · omega
      · go_simp
      · go_simp
      rintro e w' ⟨rfl, rfl⟩
      go_wp2_with fail
      refine (take_any _ (x / 2) 8192 _ ?_ ?_ (by omega) ?_ ?_).mono ?_
      · omega
      · omega
      · go_simp
      · go_simp
      rintro e w' ⟨rfl, rfl⟩
      go_wp2_with fail
      refine (take_any _ (x / 2 / 8192) 8192 _ ?_ ?_ (by omega) ?_ ?_).mono ?_
      · omega
      · omega
      · go_simp
      · go_simp
      rintro e w' ⟨rfl, rfl⟩
      go_wp2_with fail
      refine (take_any _ (x / 2 / 8192 / 8192) 8192 _ ?_ ?_ (by omega) ?_ ?_).mono ?_
      · omega
      · omega
      · go_simp
      · go_simp
      rintro e w' ⟨rfl, rfl⟩
      go_wp2_with fail
      (refine (right_any _ _ _ _ _).mono ?_); rintro e w1 ⟨rfl, hw1⟩; obtain ⟨hcw1, hfw1⟩ := bcell hw1; (try (simp only [World.size_drew, World.cell?_drew, World.frozen?_drew] at hcw1 hfw1)); have hzw1 := hw1.size; (try (simp only [World.size_alloc, World.size_setCell, World.size_drew] at hzw1)); (try (have hzw1_w_0 : w.heap.size < w1.heap.size := by omega)); (try (have hzw1_w_1 : w.heap.size + 1 < w1.heap.size := by omega)); (try (have hzw1_w_2 : w.heap.size + 1 + 1 < w1.heap.size := by omega)); (try (have hzw1_w_3 : w.heap.size + 1 + 1 + 1 < w1.heap.size := by omega)); (try (have hyw1_w : w.heap.size ≤ w1.heap.size := by omega)); (try (have hyw1_wa : w.heap.size + 1 ≤ w1.heap.size := by omega))
      go_wp2
      refine bodyPost_ret (v := .tuple #[.agg #[.int .i64 0, .int .i64 0, .int .i64 0, .int .i64 0], .int .i64 2]) (by simp only [results, Try.results61]; go_simp) rfl ?_
      refine ⟨?_, ?_⟩
      · rw [hv.out]
        rfl
      · repeat (first | exact Below.refl _ _ | assumption | refine Below.alloc ?_ (by first | (simp; done) | (simp; omega) | omega) _ | refine Below.setCell ?_ (by first | (simp; done) | (simp; omega) | omega) _ | apply Below.drew | refine Below.trans ?_ (Below.mono (by assumption) (by first | (simp; done) | (simp; omega) | omega)))
  · have h0a : (x / 2 / 8192 / 8192 / 8192 != 0) = true := by simpa using h0
    have hv : Hid (ofFrontF x = ⟨0, 0, 0, 0, 2⟩) := by unfold Hid; simp [ofFrontF, ofFrontB, h0]
    clear h0
    go_enter Try.func61, Try.ntmps61
    go_wp2_with fail
    refine (take_any _ (x) 2 _ ?_ ?_ (by omega) ?_ ?_).mono ?_
    · omega
    · omega
    · go_simp
    · go_simp
    rintro e w' ⟨rfl, rfl⟩
    go_wp2_with fail
    refine (take_any _ (x / 2) 8192 _ ?_ ?_ (by omega) ?_ ?_).mono ?_
    · omega
    · omega
    · go_simp
    · go_simp
    rintro e w' ⟨rfl, rfl⟩
    go_wp2_with fail
    refine (take_any _ (x / 2 / 8192) 8192 _ ?_ ?_ (by omega) ?_ ?_).mono ?_
    · omega
    · omega
    · go_simp
    · go_simp
    rintro e w' ⟨rfl, rfl⟩
    go_wp2_with fail
    refine (take_any _ (x / 2 / 8192 / 8192) 8192 _ ?_ ?_ (by omega) ?_ ?_).mono ?_
    · omega
    · omega
    · go_simp
    · go_simp
    rintro e w' ⟨rfl, rfl⟩
    go_wp2
    refine bodyPost_ret (v := .tuple #[.agg #[.int .i64 0, .int .i64 0, .int .i64 0, .int .i64 0], .int .i64 2]) (by simp only [results, Try.results61]; go_simp) rfl ?_
    refine ⟨?_, ?_⟩
    · rw [hv.out]
      rfl
    · repeat (first | exact Below.refl _ _ | assumption | refine Below.alloc ?_ (by first | (simp; done) | (simp; omega) | omega) _ | refine Below.setCell ?_ (by first | (simp; done) | (simp; omega) | omega) _ | apply Below.drew | refine Below.trans ?_ (Below.mono (by assumption) (by first | (simp; done) | (simp; omega) | omega)))

set_option maxHeartbeats 4000000 in
theorem refOfFront_any (x : Int) (w : World) (hx0 : 0 ≤ x) (hx : x ≤ 18446744073709551615) :
    Calls Try.prog 22 #[.int .u64 x] w fun e w' => e = .returned (ofFrontF x).val ∧ Below w.heap.size w w' := by
  have hd : Hid (x / 2 / 67108864 = x / 2 / 8192 / 8192) := by unfold Hid; omega
  by_cases h0 : x / 2 / 8192 / 8192 / 8192 = 0
  · have h0a : ¬ 549755813888 ≤ x / 2 := by omega
    by_cases h1 : rightB (x % 2) (x / 2 % 8192) (x / 2 / 8192 % 8192) (x / 2 / 67108864) = true
    · have hv : Hid (ofFrontF x = ⟨x % 2, x / 2 % 8192, x / 2 / 8192 % 8192, x / 2 / 67108864, 0⟩) := by
        unfold Hid
        have e : x / 2 / 8192 / 8192 % 8192 = x / 2 / 67108864 := by omega
        simp only [ofFrontF, ofFrontB, ofS, ofL, ofH, ofO, e, h1, h0]
        simp
      clear h0
      go_enter Try.func22, Try.ntmps22
      go_wp2_with fail
      (refine (refRight_any _ _ _ _ _).mono ?_); rintro e w1 ⟨rfl, hw1⟩; obtain ⟨hcw1, hfw1⟩ := bcell hw1; (try (simp only [World.size_drew, World.cell?_drew, World.frozen?_drew] at hcw1 hfw1)); have hzw1 := hw1.size; (try (simp only [World.size_alloc, World.size_setCell, World.size_drew] at hzw1)); (try (have hzw1_w_0 : w.heap.size < w1.heap.size := by omega)); (try (have hzw1_w_1 : w.heap.size + 1 < w1.heap.size := by omega)); (try (have hzw1_w_2 : w.heap.size + 1 + 1 < w1.heap.size := by omega)); (try (have hzw1_w_3 : w.heap.size + 1 + 1 + 1 < w1.heap.size := by omega)); (try (have hyw1_w : w.heap.size ≤ w1.heap.size := by omega)); (try (have hyw1_wa : w.heap.size + 1 ≤ w1.heap.size := by omega))
      go_wp2
      refine bodyPost_ret (v := .tuple #[.agg #[.int .i64 (x % 2), .int .i64 (x / 2 % 8192), .int .i64 (x / 2 / 8192 % 8192), .int .i64 (x / 2 / 67108864)], .int .i64 0]) (by simp only [results, Try.results22]; go_simp) rfl ?_
      refine ⟨?_, ?_⟩
      · rw [hv.out]
        rfl
      · repeat (first | exact Below.refl _ _ | assumption | refine Below.alloc ?_ (by first | (simp; done) | (simp; omega) | omega) _ | refine Below.setCell ?_ (by first | (simp; done) | (simp; omega) | omega) _ | apply Below.drew | refine Below.trans ?_ (Below.mono (by assumption) (by first | (simp; done) | (simp; omega) | omega)))
    · have h1a : rightB (x % 2) (x / 2 % 8192) (x / 2 / 8192 % 8192) (x / 2 / 67108864) = false := by simpa using h1
      have hv : Hid (ofFrontF x = ⟨0, 0, 0, 0, 2⟩) := by
        unfold Hid
        have e : x / 2 / 8192 / 8192 % 8192 = x / 2 / 67108864 := by omega
        simp only [ofFrontF, ofFrontB, ofS, ofL, ofH, ofO, e, h1a, h0]
        simp
      clear h0
      go_enter Try.func22, Try.ntmps22
      go_wp2_with fail
      (refine (refRight_any _ _ _ _ _).mono ?_); rintro e w1 ⟨rfl, hw1⟩; obtain ⟨hcw1, hfw1⟩ := bcell hw1; (try (simp only [World.size_drew, World.cell?_drew, World.frozen?_drew] at hcw1 hfw1)); have hzw1 := hw1.size; (try (simp only [World.size_alloc, World.size_setCell, World.size_drew] at hzw1)); (try (have hzw1_w_0 : w.heap.size < w1.heap.size := by omega)); (try (have hzw1_w_1 : w.heap.size + 1 < w1.heap.size := by omega)); (try (have hzw1_w_2 : w.heap.size + 1 + 1 < w1.heap.size := by omega)); (try (have hzw1_w_3 : w.heap.size + 1 + 1 + 1 < w1.heap.size := by omega)); (try (have hyw1_w : w.heap.size ≤ w1.heap.size := by omega)); (try (have hyw1_wa : w.heap.size + 1 ≤ w1.heap.size := by omega))
      go_wp2
      refine bodyPost_ret (v := .tuple #[.agg #[.int .i64 0, .int .i64 0, .int .i64 0, .int .i64 0], .int .i64 2]) (by simp only [results, Try.results22]; go_simp) rfl ?_
      refine ⟨?_, ?_⟩
      · rw [hv.out]
        rfl
      · repeat (first | exact Below.refl _ _ | assumption | refine Below.alloc ?_ (by first | (simp; done) | (simp; omega) | omega) _ | refine Below.setCell ?_ (by first | (simp; done) | (simp; omega) | omega) _ | apply Below.drew | refine Below.trans ?_ (Below.mono (by assumption) (by first | (simp; done) | (simp; omega) | omega)))
  · have h0a : 549755813888 ≤ x / 2 := by omega
    have hv : Hid (ofFrontF x = ⟨0, 0, 0, 0, 2⟩) := by unfold Hid; simp [ofFrontF, ofFrontB, h0]
    clear h0
    go_enter Try.func22, Try.ntmps22
    go_wp2
    refine bodyPost_ret (v := .tuple #[.agg #[.int .i64 0, .int .i64 0, .int .i64 0, .int .i64 0], .int .i64 2]) (by simp only [results, Try.results22]; go_simp) rfl ?_
    refine ⟨?_, ?_⟩
    · rw [hv.out]
      rfl
    · repeat (first | exact Below.refl _ _ | assumption | refine Below.alloc ?_ (by first | (simp; done) | (simp; omega) | omega) _ | refine Below.setCell ?_ (by first | (simp; done) | (simp; omega) | omega) _ | apply Below.drew | refine Below.trans ?_ (Below.mono (by assumption) (by first | (simp; done) | (simp; omega) | omega)))

set_option maxHeartbeats 4000000 in
theorem refFront_any (s l h o : Int) (w : World) :
    Calls Try.prog 30 #[.agg #[.int .i64 s, .int .i64 l, .int .i64 h, .int .i64 o]] w fun e w' => e = .returned (.tuple #[.int .u64 (frontW s l h o), .int .i64 (frontE s l h o)]) ∧ Below w.heap.size w w' := by
  by_cases h1 : rightB s l h o = true
  · have hb := rightB_iff.1 h1
    go_enter Try.func30, Try.ntmps30
    go_wp2_with fail
    (refine (refRight_any _ _ _ _ _).mono ?_); rintro e w1 ⟨rfl, hw1⟩; obtain ⟨hcw1, hfw1⟩ := bcell hw1; (try (simp only [World.size_drew, World.cell?_drew, World.frozen?_drew] at hcw1 hfw1)); have hzw1 := hw1.size; (try (simp only [World.size_alloc, World.size_setCell, World.size_drew] at hzw1)); (try (have hzw1_w_0 : w.heap.size < w1.heap.size := by omega)); (try (have hzw1_w_1 : w.heap.size + 1 < w1.heap.size := by omega)); (try (have hzw1_w_2 : w.heap.size + 1 + 1 < w1.heap.size := by omega)); (try (have hzw1_w_3 : w.heap.size + 1 + 1 + 1 < w1.heap.size := by omega)); (try (have hyw1_w : w.heap.size ≤ w1.heap.size := by omega)); (try (have hyw1_wa : w.heap.size + 1 ≤ w1.heap.size := by omega))
    go_wp2
    go_ret2
    refine ⟨?_, ?_⟩
    · simp [frontW, frontE, h1]
      try omega
    · repeat (first | exact Below.refl _ _ | assumption | refine Below.alloc ?_ (by first | (simp; done) | (simp; omega) | omega) _ | refine Below.setCell ?_ (by first | (simp; done) | (simp; omega) | omega) _ | apply Below.drew | refine Below.trans ?_ (Below.mono (by assumption) (by first | (simp; done) | (simp; omega) | omega)))
  · have h2 : rightB s l h o = false := by simpa using h1
    go_enter Try.func30, Try.ntmps30
    go_wp2_with fail
    (refine (refRight_any _ _ _ _ _).mono ?_); rintro e w1 ⟨rfl, hw1⟩; obtain ⟨hcw1, hfw1⟩ := bcell hw1; (try (simp only [World.size_drew, World.cell?_drew, World.frozen?_drew] at hcw1 hfw1)); have hzw1 := hw1.size; (try (simp only [World.size_alloc, World.size_setCell, World.size_drew] at hzw1)); (try (have hzw1_w_0 : w.heap.size < w1.heap.size := by omega)); (try (have hzw1_w_1 : w.heap.size + 1 < w1.heap.size := by omega)); (try (have hzw1_w_2 : w.heap.size + 1 + 1 < w1.heap.size := by omega)); (try (have hzw1_w_3 : w.heap.size + 1 + 1 + 1 < w1.heap.size := by omega)); (try (have hyw1_w : w.heap.size ≤ w1.heap.size := by omega)); (try (have hyw1_wa : w.heap.size + 1 ≤ w1.heap.size := by omega))
    go_wp2
    go_ret2
    refine ⟨?_, ?_⟩
    · simp [frontW, frontE, h2]
    · repeat (first | exact Below.refl _ _ | assumption | refine Below.alloc ?_ (by first | (simp; done) | (simp; omega) | omega) _ | refine Below.setCell ?_ (by first | (simp; done) | (simp; omega) | omega) _ | apply Below.drew | refine Below.trans ?_ (Below.mono (by assumption) (by first | (simp; done) | (simp; omega) | omega)))
end Go.Proofs.Ytnnllhlcpmmcaaa
