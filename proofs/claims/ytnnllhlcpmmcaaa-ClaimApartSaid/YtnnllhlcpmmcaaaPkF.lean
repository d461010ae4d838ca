/- The walks of package pack, and of its reference: claims, a frontier turned round, the names of phases. -/
import Derived.Test.YtnnllhlcpmmcaaaPkE
namespace Go.Proofs.Ytnnllhlcpmmcaaa
set_option linter.unusedVariables false
set_option linter.unusedSimpArgs false
open Go.RowKit

structure ClaimRes where
  s : Int
  l : Int
  h : Int
  o : Int
  at_ : Int
  e : Int

def claimF (s l h o space n : Int) : ClaimRes :=
  if rightB s l h o && inB 1 [space] && decide (1 ≤ n) then
    if fitsB s l h o n then
      if space = s then ⟨s, l + n, h, o, l, 0⟩ else ⟨s, l, h, o + n, o, 0⟩
    else ⟨0, 0, 0, 0, 0, 4⟩
  else ⟨0, 0, 0, 0, 0, 2⟩

def ClaimRes.val (c : ClaimRes) : Value := .tuple #[.agg #[.int .i64 c.s, .int .i64 c.l, .int .i64 c.h, .int .i64 c.o], .int .i64 c.at_, .int .i64 c.e]

theorem fitsB_iff {s l h o n : Int} : fitsB s l h o n = true ↔ rightB s l h o = true ∧ 1 ≤ n ∧ n ≤ h - l - o := by
  simp only [fitsB, Bool.and_eq_true, decide_eq_true_eq]

set_option maxHeartbeats 8000000 in
theorem claim_any (s l h o space n : Int) (w : World) :
    Calls Try.prog 64 #[.agg #[.int .i64 s, .int .i64 l, .int .i64 h, .int .i64 o], .int .i64 space, .int .i64 n] w fun e w' => e = .returned (claimF s l h o space n).val ∧ Below w.heap.size w w' := by
  by_cases h1 : rightB s l h o = true
  · have hb := rightB_iff.1 h1
    by_cases h2 : inB 1 [space] = true
    · by_cases h3 : 1 ≤ n
      · have h3a : decide (1 ≤ n) = true := by simpa using h3
        by_cases h4 : fitsB s l h o n = true
        · have hb4 := (fitsB_iff.1 h4).2.2
          by_cases h5 : space = s
          · subst h5
            have hv : Hid (claimF space l h o space n = ⟨space, l + n, h, o, l, 0⟩) := by unfold Hid; simp [claimF, *]
            go_enter Try.func64, Try.ntmps64
            go_wp2
            refine wp_scope_fwd 0 rfl ?_
            go_wp2_with fail
            (refine (right_any _ _ _ _ _).mono ?_); rintro e w1 ⟨rfl, hw1⟩; obtain ⟨hcw1, hfw1⟩ := bcell hw1; (try (simp only [World.size_drew, World.cell?_drew, World.frozen?_drew] at hcw1 hfw1)); have hzw1 := hw1.size; (try (simp only [World.size_alloc, World.size_setCell, World.size_drew] at hzw1)); (try (have hzw1_w_0 : w.heap.size < w1.heap.size := by omega)); (try (have hzw1_w_1 : w.heap.size + 1 < w1.heap.size := by omega)); (try (have hzw1_w_2 : w.heap.size + 1 + 1 < w1.heap.size := by omega)); (try (have hzw1_w_3 : w.heap.size + 1 + 1 + 1 < w1.heap.size := by omega)); (try (have hyw1_w : w.heap.size ≤ w1.heap.size := by omega)); (try (have hyw1_wa : w.heap.size + 1 ≤ w1.heap.size := by omega))
            go_wp2_with fail
            refine (within1 _ space _ _ (by go_simp)).mono ?_
            rintro e w' ⟨rfl, rfl⟩
            go_wp2_with fail
            (refine (fits_any _ _ _ _ _ _).mono ?_); rintro e w2 ⟨rfl, hw2⟩; obtain ⟨hcw2, hfw2⟩ := bcell hw2; (try (simp only [World.size_drew, World.cell?_drew, World.frozen?_drew] at hcw2 hfw2)); have hzw2 := hw2.size; (try (simp only [World.size_alloc, World.size_setCell, World.size_drew] at hzw2)); (try (have hzw2_w_0 : w.heap.size < w2.heap.size := by omega)); (try (have hzw2_w_1 : w.heap.size + 1 < w2.heap.size := by omega)); (try (have hzw2_w_2 : w.heap.size + 1 + 1 < w2.heap.size := by omega)); (try (have hzw2_w_3 : w.heap.size + 1 + 1 + 1 < w2.heap.size := by omega)); (try (have hyw2_w : w.heap.size ≤ w2.heap.size := by omega)); (try (have hyw2_wa : w.heap.size + 1 ≤ w2.heap.size := by omega))
            have : w2.cell? ⟨w.heap.size, 0, none⟩ = some (.int .i64 space) := by go_simp
            have : w2.cell? ⟨w.heap.size, 1, none⟩ = some (.int .i64 l) := by go_simp
            have : w2.cell? ⟨w.heap.size, 2, none⟩ = some (.int .i64 h) := by go_simp
            have : w2.cell? ⟨w.heap.size, 3, none⟩ = some (.int .i64 o) := by go_simp
            have : w2.cell? ⟨w.heap.size + 1, 0, none⟩ = some (.int .i64 0) := by go_simp
            have : w2.cell? ⟨w.heap.size + 1, 1, none⟩ = some (.int .i64 0) := by go_simp
            have : w2.cell? ⟨w.heap.size + 1, 2, none⟩ = some (.int .i64 0) := by go_simp
            have : w2.cell? ⟨w.heap.size + 1, 3, none⟩ = some (.int .i64 0) := by go_simp
            have : w2.frozen? ⟨w.heap.size, 0, none⟩ = false := by go_simp
            have : w2.frozen? ⟨w.heap.size, 1, none⟩ = false := by go_simp
            have : w2.frozen? ⟨w.heap.size, 2, none⟩ = false := by go_simp
            have : w2.frozen? ⟨w.heap.size, 3, none⟩ = false := by go_simp
            have : w2.frozen? ⟨w.heap.size + 1, 0, none⟩ = false := by go_simp
            have : w2.frozen? ⟨w.heap.size + 1, 1, none⟩ = false := by go_simp
            have : w2.frozen? ⟨w.heap.size + 1, 2, none⟩ = false := by go_simp
            have : w2.frozen? ⟨w.heap.size + 1, 3, none⟩ = false := by go_simp
            clear hcw1 hfw1 hcw2 hfw2
            go_wp2_with fail
            go_region
            all_goals
              go_wp2
              (first | rw [fwd_ret] | rw [Exit.noGoto_ret] | skip)
              refine bodyPost_ret (v := .tuple #[.agg #[.int .i64 space, .int .i64 (l + n), .int .i64 h, .int .i64 o], .int .i64 l, .int .i64 0]) (by simp only [results, Try.results64]; go_simp) rfl ?_
              refine ⟨?_, ?_⟩
              · rw [hv.out]
                rfl
              · repeat (first | exact Below.refl _ _ | assumption | refine Below.alloc ?_ (by first | (simp; done) | (simp; omega) | omega) _ | refine Below.setCell ?_ (by first | (simp; done) | (simp; omega) | omega) _ | apply Below.drew | refine Below.trans ?_ (Below.mono (by assumption) (by first | (simp; done) | (simp; omega) | omega)))
          · have h5a : (space == s) = false := by simpa using h5
            have hv : Hid (claimF s l h o space n = ⟨s, l, h, o + n, o, 0⟩) := by unfold Hid; simp [claimF, *]
            go_enter Try.func64, Try.ntmps64
            go_wp2
            refine wp_scope_fwd 0 rfl ?_
            go_wp2_with fail
            (refine (right_any _ _ _ _ _).mono ?_); rintro e w1 ⟨rfl, hw1⟩; obtain ⟨hcw1, hfw1⟩ := bcell hw1; (try (simp only [World.size_drew, World.cell?_drew, World.frozen?_drew] at hcw1 hfw1)); have hzw1 := hw1.size; (try (simp only [World.size_alloc, World.size_setCell, World.size_drew] at hzw1)); (try (have hzw1_w_0 : w.heap.size < w1.heap.size := by omega)); (try (have hzw1_w_1 : w.heap.size + 1 < w1.heap.size := by omega)); (try (have hzw1_w_2 : w.heap.size + 1 + 1 < w1.heap.size := by omega)); (try (have hzw1_w_3 : w.heap.size + 1 + 1 + 1 < w1.heap.size := by omega)); (try (have hyw1_w : w.heap.size ≤ w1.heap.size := by omega)); (try (have hyw1_wa : w.heap.size + 1 ≤ w1.heap.size := by omega))
            go_wp2_with fail
            refine (within1 _ space _ _ (by go_simp)).mono ?_
            rintro e w' ⟨rfl, rfl⟩
            go_wp2_with fail
            (refine (fits_any _ _ _ _ _ _).mono ?_); rintro e w2 ⟨rfl, hw2⟩; obtain ⟨hcw2, hfw2⟩ := bcell hw2; (try (simp only [World.size_drew, World.cell?_drew, World.frozen?_drew] at hcw2 hfw2)); have hzw2 := hw2.size; (try (simp only [World.size_alloc, World.size_setCell, World.size_drew] at hzw2)); (try (have hzw2_w_0 : w.heap.size < w2.heap.size := by omega)); (try (have hzw2_w_1 : w.heap.size + 1 < w2.heap.size := by omega)); (try (have hzw2_w_2 : w.heap.size + 1 + 1 < w2.heap.size := by omega)); (try (have hzw2_w_3 : w.heap.size + 1 + 1 + 1 < w2.heap.size := by omega)); (try (have hyw2_w : w.heap.size ≤ w2.heap.size := by omega)); (try (have hyw2_wa : w.heap.size + 1 ≤ w2.heap.size := by omega))
            have : w2.cell? ⟨w.heap.size, 0, none⟩ = some (.int .i64 s) := by go_simp
            have : w2.cell? ⟨w.heap.size, 1, none⟩ = some (.int .i64 l) := by go_simp
            have : w2.cell? ⟨w.heap.size, 2, none⟩ = some (.int .i64 h) := by go_simp
            have : w2.cell? ⟨w.heap.size, 3, none⟩ = some (.int .i64 o) := by go_simp
            have : w2.cell? ⟨w.heap.size + 1, 0, none⟩ = some (.int .i64 0) := by go_simp
            have : w2.cell? ⟨w.heap.size + 1, 1, none⟩ = some (.int .i64 0) := by go_simp
            have : w2.cell? ⟨w.heap.size + 1, 2, none⟩ = some (.int .i64 0) := by go_simp
            have : w2.cell? ⟨w.heap.size + 1, 3, none⟩ = some (.int .i64 0) := by go_simp
            have : w2.frozen? ⟨w.heap.size, 0, none⟩ = false := by go_simp
            have : w2.frozen? ⟨w.heap.size, 1, none⟩ = false := by go_simp
            have : w2.frozen? ⟨w.heap.size, 2, none⟩ = false := by go_simp
            have : w2.frozen? ⟨w.heap.size, 3, none⟩ = false := by go_simp
            have : w2.frozen? ⟨w.heap.size + 1, 0, none⟩ = false := by go_simp
            have : w2.frozen? ⟨w.heap.size + 1, 1, none⟩ = false := by go_simp
            have : w2.frozen? ⟨w.heap.size + 1, 2, none⟩ = false := by go_simp
            have : w2.frozen? ⟨w.heap.size + 1, 3, none⟩ = false := by go_simp
            clear hcw1 hfw1 hcw2 hfw2
            go_wp2_with fail
            go_region
            all_goals
              go_wp2
              (first | rw [fwd_ret] | rw [Exit.noGoto_ret] | skip)
              refine bodyPost_ret (v := .tuple #[.agg #[.int .i64 s, .int .i64 l, .int .i64 h, .int .i64 (o + n)], .int .i64 o, .int .i64 0]) (by simp only [results, Try.results64]; go_simp) rfl ?_
              refine ⟨?_, ?_⟩
              · rw [hv.out]
                rfl
              · repeat (first | exact Below.refl _ _ | assumption | refine Below.alloc ?_ (by first | (simp; done) | (simp; omega) | omega) _ | refine Below.setCell ?_ (by first | (simp; done) | (simp; omega) | omega) _ | apply Below.drew | refine Below.trans ?_ (Below.mono (by assumption) (by first | (simp; done) | (simp; omega) | omega)))
        · have h4a : fitsB s l h o n = false := by simpa using h4
          have hv : Hid (claimF s l h o space n = ⟨0, 0, 0, 0, 0, 4⟩) := by unfold Hid; simp [claimF, *]
          go_enter Try.func64, Try.ntmps64
          go_wp2
          refine wp_scope_fwd 0 rfl ?_
          go_wp2_with fail
          (refine (right_any _ _ _ _ _).mono ?_); rintro e w1 ⟨rfl, hw1⟩; obtain ⟨hcw1, hfw1⟩ := bcell hw1; (try (simp only [World.size_drew, World.cell?_drew, World.frozen?_drew] at hcw1 hfw1)); have hzw1 := hw1.size; (try (simp only [World.size_alloc, World.size_setCell, World.size_drew] at hzw1)); (try (have hzw1_w_0 : w.heap.size < w1.heap.size := by omega)); (try (have hzw1_w_1 : w.heap.size + 1 < w1.heap.size := by omega)); (try (have hzw1_w_2 : w.heap.size + 1 + 1 < w1.heap.size := by omega)); (try (have hzw1_w_3 : w.heap.size + 1 + 1 + 1 < w1.heap.size := by omega)); (try (have hyw1_w : w.heap.size ≤ w1.heap.size := by omega)); (try (have hyw1_wa : w.heap.size + 1 ≤ w1.heap.size := by omega))
          go_wp2_with fail
          refine (within1 _ space _ _ (by go_simp)).mono ?_
          rintro e w' ⟨rfl, rfl⟩
          go_wp2_with fail
          (refine (fits_any _ _ _ _ _ _).mono ?_); rintro e w2 ⟨rfl, hw2⟩; obtain ⟨hcw2, hfw2⟩ := bcell hw2; (try (simp only [World.size_drew, World.cell?_drew, World.frozen?_drew] at hcw2 hfw2)); have hzw2 := hw2.size; (try (simp only [World.size_alloc, World.size_setCell, World.size_drew] at hzw2)); (try (have hzw2_w_0 : w.heap.size < w2.heap.size := by omega)); (try (have hzw2_w_1 : w.heap.size + 1 < w2.heap.size := by omega)); (try (have hzw2_w_2 : w.heap.size + 1 + 1 < w2.heap.size := by omega)); (try (have hzw2_w_3 : w.heap.size + 1 + 1 + 1 < w2.heap.size := by omega)); (try (have hyw2_w : w.heap.size ≤ w2.heap.size := by omega)); (try (have hyw2_wa : w.heap.size + 1 ≤ w2.heap.size := by omega))
          go_wp2
          (go_step3; refine fwd_goto ?_; go_wp2)
          (first | rw [fwd_ret] | rw [Exit.noGoto_ret] | skip)
          refine bodyPost_ret (v := .tuple #[.agg #[.int .i64 0, .int .i64 0, .int .i64 0, .int .i64 0], .int .i64 0, .int .i64 4]) (by simp only [results, Try.results64]; go_simp) rfl ?_
          refine ⟨?_, ?_⟩
          · rw [hv.out]
            rfl
          · repeat (first | exact Below.refl _ _ | assumption | refine Below.alloc ?_ (by first | (simp; done) | (simp; omega) | omega) _ | refine Below.setCell ?_ (by first | (simp; done) | (simp; omega) | omega) _ | apply Below.drew | refine Below.trans ?_ (Below.mono (by assumption) (by first | (simp; done) | (simp; omega) | omega)))
      · have h3a : decide (1 ≤ n) = false := by simpa using h3
        have hv : Hid (claimF s l h o space n = ⟨0, 0, 0, 0, 0, 2⟩) := by unfold Hid; simp [claimF, *]
        go_enter Try.func64, Try.ntmps64
        go_wp2
        refine wp_scope_fwd 0 rfl ?_
        go_wp2_with fail
        (refine (right_any _ _ _ _ _).mono ?_); rintro e w1 ⟨rfl, hw1⟩; obtain ⟨hcw1, hfw1⟩ := bcell hw1; (try (simp only [World.size_drew, World.cell?_drew, World.frozen?_drew] at hcw1 hfw1)); have hzw1 := hw1.size; (try (simp only [World.size_alloc, World.size_setCell, World.size_drew] at hzw1)); (try (have hzw1_w_0 : w.heap.size < w1.heap.size := by omega)); (try (have hzw1_w_1 : w.heap.size + 1 < w1.heap.size := by omega)); (try (have hzw1_w_2 : w.heap.size + 1 + 1 < w1.heap.size := by omega)); (try (have hzw1_w_3 : w.heap.size + 1 + 1 + 1 < w1.heap.size := by omega)); (try (have hyw1_w : w.heap.size ≤ w1.heap.size := by omega)); (try (have hyw1_wa : w.heap.size + 1 ≤ w1.heap.size := by omega))
        go_wp2_with fail
        refine (within1 _ space _ _ (by go_simp)).mono ?_
        rintro e w' ⟨rfl, rfl⟩
        go_wp2
        (go_step3; refine fwd_goto ?_; go_wp2)
        (first | rw [fwd_ret] | rw [Exit.noGoto_ret] | skip)
        refine bodyPost_ret (v := .tuple #[.agg #[.int .i64 0, .int .i64 0, .int .i64 0, .int .i64 0], .int .i64 0, .int .i64 2]) (by simp only [results, Try.results64]; go_simp) rfl ?_
        refine ⟨?_, ?_⟩
        · rw [hv.out]
          rfl
        · repeat (first | exact Below.refl _ _ | assumption | refine Below.alloc ?_ (by first | (simp; done) | (simp; omega) | omega) _ | refine Below.setCell ?_ (by first | (simp; done) | (simp; omega) | omega) _ | apply Below.drew | refine Below.trans ?_ (Below.mono (by assumption) (by first | (simp; done) | (simp; omega) | omega)))
    · have h2a : inB 1 [space] = false := by simpa using h2
      have hv : Hid (claimF s l h o space n = ⟨0, 0, 0, 0, 0, 2⟩) := by unfold Hid; simp [claimF, *]
      go_enter Try.func64, Try.ntmps64
      go_wp2
      refine wp_scope_fwd 0 rfl ?_
      go_wp2_with fail
      (refine (right_any _ _ _ _ _).mono ?_); rintro e w1 ⟨rfl, hw1⟩; obtain ⟨hcw1, hfw1⟩ := bcell hw1; (try (simp only [World.size_drew, World.cell?_drew, World.frozen?_drew] at hcw1 hfw1)); have hzw1 := hw1.size; (try (simp only [World.size_alloc, World.size_setCell, World.size_drew] at hzw1)); (try (have hzw1_w_0 : w.heap.size < w1.heap.size := by omega)); (try (have hzw1_w_1 : w.heap.size + 1 < w1.heap.size := by omega)); (try (have hzw1_w_2 : w.heap.size + 1 + 1 < w1.heap.size := by omega)); (try (have hzw1_w_3 : w.heap.size + 1 + 1 + 1 < w1.heap.size := by omega)); (try (have hyw1_w : w.heap.size ≤ w1.heap.size := by omega)); (try (have hyw1_wa : w.heap.size + 1 ≤ w1.heap.size := by omega))
      go_wp2_with fail
      refine (within1 _ space _ _ (by go_simp)).mono ?_
      rintro e w' ⟨rfl, rfl⟩
      go_wp2
      (go_step3; refine fwd_goto ?_; go_wp2)
      (first | rw [fwd_ret] | rw [Exit.noGoto_ret] | skip)
      refine bodyPost_ret (v := .tuple #[.agg #[.int .i64 0, .int .i64 0, .int .i64 0, .int .i64 0], .int .i64 0, .int .i64 2]) (by simp only [results, Try.results64]; go_simp) rfl ?_
      refine ⟨?_, ?_⟩
      · rw [hv.out]
        rfl
      · repeat (first | exact Below.refl _ _ | assumption | refine Below.alloc ?_ (by first | (simp; done) | (simp; omega) | omega) _ | refine Below.setCell ?_ (by first | (simp; done) | (simp; omega) | omega) _ | apply Below.drew | refine Below.trans ?_ (Below.mono (by assumption) (by first | (simp; done) | (simp; omega) | omega)))
  · have h1a : rightB s l h o = false := by simpa using h1
    have hv : Hid (claimF s l h o space n = ⟨0, 0, 0, 0, 0, 2⟩) := by unfold Hid; simp [claimF, *]
    go_enter Try.func64, Try.ntmps64
    go_wp2
    refine wp_scope_fwd 0 rfl ?_
    go_wp2_with fail
    (refine (right_any _ _ _ _ _).mono ?_); rintro e w1 ⟨rfl, hw1⟩; obtain ⟨hcw1, hfw1⟩ := bcell hw1; (try (simp only [World.size_drew, World.cell?_drew, World.frozen?_drew] at hcw1 hfw1)); have hzw1 := hw1.size; (try (simp only [World.size_alloc, World.size_setCell, World.size_drew] at hzw1)); (try (have hzw1_w_0 : w.heap.size < w1.heap.size := by omega)); (try (have hzw1_w_1 : w.heap.size + 1 < w1.heap.size := by omega)); (try (have hzw1_w_2 : w.heap.size + 1 + 1 < w1.heap.size := by omega)); (try (have hzw1_w_3 : w.heap.size + 1 + 1 + 1 < w1.heap.size := by omega)); (try (have hyw1_w : w.heap.size ≤ w1.heap.size := by omega)); (try (have hyw1_wa : w.heap.size + 1 ≤ w1.heap.size := by omega))
    go_wp2
    (go_step3; refine fwd_goto ?_; go_wp2)
    (first | rw [fwd_ret] | rw [Exit.noGoto_ret] | skip)
    refine bodyPost_ret (v := .tuple #[.agg #[.int .i64 0, .int .i64 0, .int .i64 0, .int .i64 0], .int .i64 0, .int .i64 2]) (by simp only [results, Try.results64]; go_simp) rfl ?_
    refine ⟨?_, ?_⟩
    · rw [hv.out]
      rfl
    · repeat (first | exact Below.refl _ _ | assumption | refine Below.alloc ?_ (by first | (simp; done) | (simp; omega) | omega) _ | refine Below.setCell ?_ (by first | (simp; done) | (simp; omega) | omega) _ | apply Below.drew | refine Below.trans ?_ (Below.mono (by assumption) (by first | (simp; done) | (simp; omega) | omega)))
end Go.Proofs.Ytnnllhlcpmmcaaa
