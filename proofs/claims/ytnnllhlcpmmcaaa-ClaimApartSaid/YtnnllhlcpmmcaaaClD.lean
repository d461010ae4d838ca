/- Package claim: a frontier's word looked at, one that is a frontier. -/
import Derived.Test.YtnnllhlcpmmcaaaClC
import Derived.Deep.DeepCutAuto
namespace Go.Proofs.Ytnnllhlcpmmcaaa
set_option linter.unusedVariables false
set_option linter.unusedSimpArgs false
open Go.RowKit

/-- How many words are claimed. -/
noncomputable def lkN (s n mo fs fl fh fo : Int) : Int := if mo ≠ 0 ∧ s = fs ∧ fitsB fs fl fh fo mo = true then mo else n

/-- A frontier in memory. -/
def Fr (W : World) (p : Nat) (fs fl fh fo : Int) : Prop := (W.cell? ⟨p, 0, none⟩ = some (.int .i64 fs) ∧ W.cell? ⟨p, 1, none⟩ = some (.int .i64 fl) ∧ W.cell? ⟨p, 2, none⟩ = some (.int .i64 fh) ∧ W.cell? ⟨p, 3, none⟩ = some (.int .i64 fo)) ∧ p < W.heap.size

theorem Fr.keep {W U : World} {p : Nat} {fs fl fh fo : Int} (H : Fr W p fs fl fh fo) (hb : Below W.heap.size W U) : Fr U p fs fl fh fo := by
  have e : ∀ j, U.cell? ⟨p, j, none⟩ = W.cell? ⟨p, j, none⟩ := fun j => hb.cell (p := ⟨p, j, none⟩) H.2
  have hz := hb.size
  have h1 := H.2
  unfold Fr at H ⊢
  simp only [e]
  exact ⟨H.1, by omega⟩
theorem Fr.new (W : World) (ty : TypeId) (fs fl fh fo : Int) : Fr (W.alloc (.cells #[.int .i64 fs, .int .i64 fl, .int .i64 fh, .int .i64 fo] ty)) W.heap.size fs fl fh fo :=
  ⟨⟨by go_simp, by go_simp, by go_simp, by go_simp⟩, by rw [World.size_alloc]; omega⟩

theorem swp_eq {t sp : Int} {A : Option Addr} {len cap : Nat} {s n mo pl tr wa ge ga gg oe oa og x a N : Int} : ∀ i, i < 15 →
    up (up (up (up (up (mkC t sp A len cap s n mo pl tr wa ge ga gg oe oa og) 6 (.int .i64 3)) 8 (.int .u64 x)) 9 (.int .i64 0)) 10 (.int .i64 a)) 11 (.int .i64 N) i = mkC t sp A len cap s n mo 3 tr x 0 a N oe oa og i := fun i hi => by
  have h : i = 0 ∨ i = 1 ∨ i = 2 ∨ i = 3 ∨ i = 4 ∨ i = 5 ∨ i = 6 ∨ i = 7 ∨ i = 8 ∨ i = 9 ∨ i = 10 ∨ i = 11 ∨ i = 12 ∨ i = 13 ∨ i = 14 := by omega
  rcases h with rfl | rfl | rfl | rfl | rfl | rfl | rfl | rfl | rfl | rfl | rfl | rfl | rfl | rfl | rfl <;> rfl

set_option maxRecDepth 100000 in
set_option maxHeartbeats 8000000 in
theorem look_ok (m : Nat) (t sp : Int) (A : Option Addr) (len cap : Nat) (s n mo pl tr wa ge ga gg oe oa og x fs fl fh fo cs cl ch co ca ce V : Int) (S : Nat → ByteArray) (hlen : len ≤ 9223372036854775807) (hS : ∀ i, i < len → (S i).size ≤ 9223372036854775807) (w : World) (HSh : ShOk w A len S) (H : IsM w m (mkC t sp A len cap s n mo pl tr wa ge ga gg oe oa og)) (hx0 : 0 ≤ x) (hx : x ≤ 18446744073709551615) (hb : ofFrontF x = ⟨fs, fl, fh, fo, 0⟩)
    (hle : fh ≤ sp) (hcl : claimF fs fl fh fo s (lkN s n mo fs fl fh fo) = ⟨cs, cl, ch, co, ca, ce⟩) (hV : basV t sp s len S = V) (hE0 : basE t sp s len S = 0) (hr : 0 ≤ V + ca ∧ V + ca ≤ 1000000) :
    Calls Try.prog 38 #[.pointer (some ⟨m, 0, none⟩), .int .u64 x] w
      fun en w' => (ce ≠ 0 → en = .returned (.tuple #[.agg #[.int .i64 0, .int .i64 0, .int .u64 0, .int .u64 0], .bool false]) ∧ McTo w w' m (endC (mkC t sp A len cap s n mo pl tr wa ge ga gg oe oa og) 184 0 0)) ∧
        (ce = 0 → en = .returned (.tuple #[.agg #[.int .i64 3, .int .i64 1, .int .u64 x, .int .u64 (frontW cs cl ch co)], .bool true]) ∧ McTo w w' m (mkC t sp A len cap s n mo 3 tr x 0 (V + ca) (lkN s n mo fs fl fh fo) oe oa og)) := by
  have CF := hide (fun W (q : Nat) (hW : IsM W m (mkC t sp A len cap s n mo pl tr wa ge ga gg oe oa og)) (hq : q < W.heap.size) (hqm : q ≠ m) hc => fails_any m q (mkC t sp A len cap s n mo pl tr wa ge ga gg oe oa og) 184 W hW hq hqm hc ⟨_, rfl⟩ ⟨_, _, _, rfl, rfl, rfl⟩)
  have CO := hide (fun W => ofFront_any x W hx0 hx)
  rw [hb] at CO
  have HH := hide H
  have hm := H.1
  clear H hb
  go_enter Try.func38, Try.ntmps38
  go_wp2_with fail
  refine (unhide CO _).mono ?_
  unfold FrontRes.val
  rintro e w1 ⟨rfl, hw1⟩; obtain ⟨hcw1, hfw1⟩ := bcell hw1; (try (simp only [World.size_drew, World.cell?_drew, World.frozen?_drew] at hcw1 hfw1)); have hzw1 := hw1.size; (try (simp only [World.size_alloc, World.size_setCell, World.size_drew] at hzw1)); (try (have hzw1_w_0 : w.heap.size < w1.heap.size := by omega)); (try (have hzw1_w_1 : w.heap.size + 1 < w1.heap.size := by omega)); (try (have hzw1_w_2 : w.heap.size + 1 + 1 < w1.heap.size := by omega)); (try (have hzw1_w_3 : w.heap.size + 1 + 1 + 1 < w1.heap.size := by omega)); (try (have hyw1_w : w.heap.size ≤ w1.heap.size := by omega)); (try (have hyw1_wa : w.heap.size + 1 ≤ w1.heap.size := by omega))
  have hne1 : w.heap.size ≠ m := by omega
  have hne2 : w.heap.size + 1 ≠ m := by omega
  have HL1 : Hid (LkW w1 w.heap.size m) := hide ⟨⟨by go_simp, by go_simp, by go_simp, by go_simp, by go_simp⟩, ⟨by go_simp, by go_simp, by go_simp, by go_simp⟩, by omega⟩
  have HM1 := hide (((unhide HH).alloc _).alloc _ |>.keep hw1)
  have HG1 := hide (gr_then (gr_alloc (gr_alloc (gr_refl w (some m)) _) _) hw1)
  have HS1 := hide (HSh.keep (show Below w.heap.size w w1 by repeat (first | exact Below.refl _ _ | assumption | refine Below.alloc ?_ (by first | (simp; done) | (simp; omega) | omega) _ | refine Below.setCell ?_ (by first | (simp; done) | (simp; omega) | omega) _ | apply Below.drew | refine Below.trans ?_ (Below.mono (by assumption) (by first | (simp; done) | (simp; omega) | omega)))))
  clear hcw1 hfw1 hw1
  go_upto_region 3 with fail
  generalize hW : World.alloc w1 _ = W2
  have hB2 : Below w1.heap.size w1 W2 := by rw [← hW]; exact (Below.refl _ _).alloc (Nat.le_refl _) _
  have HL2 := hide ((unhide HL1).keep hB2)
  have HM2 := hide ((unhide HM1).keep hB2)
  have HG2 := hide (gr_then (unhide HG1) hB2)
  have HF2 : Hid (Fr W2 w1.heap.size fs fl fh fo) := hide (by rw [← hW]; exact Fr.new ..)
  have HS2 := hide ((unhide HS1).keep hB2)
  clear HL1 HM1 HG1 HS1 hW hB2
  have u0 : ∀ v : Later W2, v.val.cell? ⟨w.heap.size, 0, none⟩ = some (.pointer (some ⟨m, 0, none⟩)) := Later.cell (by have := (unhide HL2).2.2; show w.heap.size < _; omega) (unhide HL2).1.1
  have u1 : ∀ v : Later W2, v.val.cell? ⟨m, 1, none⟩ = some (.int .i64 sp) := Later.cell (unhide HM2).1 ((unhide HM2).2 1 (by omega)).1
  have u2 : ∀ v : Later W2, v.val.cell? ⟨w1.heap.size, 2, none⟩ = some (.int .i64 fh) := Later.cell (unhide HF2).2 (unhide HF2).1.2.2.1
  have g1 : ¬ sp < fh := by omega
  refine wp_region_later W2 (by kernel_rfl) (by kernel_rfl) (by repeat (first | exact Below.refl _ _ | assumption | refine Below.alloc ?_ (by first | (simp; done) | (simp; omega) | omega) _ | refine Below.setCell ?_ (by first | (simp; done) | (simp; omega) | omega) _ | apply Below.drew | refine Below.trans ?_ (Below.mono (by assumption) (by first | (simp; done) | (simp; omega) | omega)))) ?_; (repeat (first | go_big_quiet_skip | (go_big_quiet_want; (first | ((fail); go_big_quiet_on; simp only [Act.put, List.setIfInBounds_toArray, List.set_cons_zero, List.set_cons_succ]) | (go_big_quiet_op; (first | go_big_quiet_on | go_big_quiet_call ((fail)))))))); refine wpQuiet_nil ?_
  intro w3 hw3
  have HL3 := hide ((unhide HL2).keep hw3)
  have HM3 := hide ((unhide HM2).keep hw3)
  have HG3 := hide (gr_then (unhide HG2) hw3)
  have HF3 := hide ((unhide HF2).keep hw3)
  have HS3 := hide ((unhide HS2).keep hw3)
  clear HL2 HM2 HG2 HF2 HS2 hw3 u0 u1 u2 g1 HSh HH CO
  go_upto_region 5 with fail
  go_cut [9] (fun s9 wx => s9 = .int .i64 (lkN s n mo fs fl fh fo) ∧ Below w3.heap.size w3 wx)
  case first =>
    have u0 : ∀ v : Later w3, v.val.cell? ⟨w.heap.size, 0, none⟩ = some (.pointer (some ⟨m, 0, none⟩)) := Later.cell (by have := (unhide HL3).2.2; show w.heap.size < _; omega) (unhide HL3).1.1
    have u1 : ∀ v : Later w3, v.val.cell? ⟨m, 3, none⟩ = some (.int .i64 s) := Later.cell (unhide HM3).1 ((unhide HM3).2 3 (by omega)).1
    have u2 : ∀ v : Later w3, v.val.cell? ⟨m, 4, none⟩ = some (.int .i64 n) := Later.cell (unhide HM3).1 ((unhide HM3).2 4 (by omega)).1
    have u3 : ∀ v : Later w3, v.val.cell? ⟨m, 5, none⟩ = some (.int .i64 mo) := Later.cell (unhide HM3).1 ((unhide HM3).2 5 (by omega)).1
    have f0 : ∀ v : Later w3, v.val.cell? ⟨w1.heap.size, 0, none⟩ = some (.int .i64 fs) := Later.cell (unhide HF3).2 (unhide HF3).1.1
    have f1 : ∀ v : Later w3, v.val.cell? ⟨w1.heap.size, 1, none⟩ = some (.int .i64 fl) := Later.cell (unhide HF3).2 (unhide HF3).1.2.1
    have f2 : ∀ v : Later w3, v.val.cell? ⟨w1.heap.size, 2, none⟩ = some (.int .i64 fh) := Later.cell (unhide HF3).2 (unhide HF3).1.2.2.1
    have f3 : ∀ v : Later w3, v.val.cell? ⟨w1.heap.size, 3, none⟩ = some (.int .i64 fo) := Later.cell (unhide HF3).2 (unhide HF3).1.2.2.2
    have CI := hide (fun (v : Later w3) => later_call (fits_any fs fl fh fo mo v.val))
    by_cases h0 : mo = 0
    · have e : lkN s n mo fs fl fh fo = n := by unfold lkN; rw [if_neg (fun h => h.1 h0)]
      subst h0
      refine wp_region_later w3 (by kernel_rfl) (by kernel_rfl) (by repeat (first | exact Below.refl _ _ | assumption | refine Below.alloc ?_ (by first | (simp; done) | (simp; omega) | omega) _ | refine Below.setCell ?_ (by first | (simp; done) | (simp; omega) | omega) _ | apply Below.drew | refine Below.trans ?_ (Below.mono (by assumption) (by first | (simp; done) | (simp; omega) | omega)))) ?_; (repeat (first | go_big_quiet_skip | (go_big_quiet_want; (first | ((fail); go_big_quiet_on; simp only [Act.put, List.setIfInBounds_toArray, List.set_cons_zero, List.set_cons_succ]) | (go_big_quiet_op; (first | go_big_quiet_on | go_big_quiet_call ((first | (go_at_call 63; exact unhide CI _) | (go_at_call 62; exact later_call (pick_any _ _ _ _)))))))))); refine wpQuiet_nil ?_
      intro w4 hw4
      go_wp2
      go_meet
      exact ⟨by rw [e], hw4⟩
    · have h0' : (mo != 0) = true := by simpa using h0
      by_cases h1 : s = fs
      · subst h1
        cases hf : fitsB s fl fh fo mo with
        | false =>
          rw [hf] at CI
          have e : lkN s n mo s fl fh fo = n := by unfold lkN; rw [if_neg (fun h => by rw [hf] at h; exact absurd h.2.2 (by simp))]
          refine wp_region_later w3 (by kernel_rfl) (by kernel_rfl) (by repeat (first | exact Below.refl _ _ | assumption | refine Below.alloc ?_ (by first | (simp; done) | (simp; omega) | omega) _ | refine Below.setCell ?_ (by first | (simp; done) | (simp; omega) | omega) _ | apply Below.drew | refine Below.trans ?_ (Below.mono (by assumption) (by first | (simp; done) | (simp; omega) | omega)))) ?_; (repeat (first | go_big_quiet_skip | (go_big_quiet_want; (first | ((fail); go_big_quiet_on; simp only [Act.put, List.setIfInBounds_toArray, List.set_cons_zero, List.set_cons_succ]) | (go_big_quiet_op; (first | go_big_quiet_on | go_big_quiet_call ((first | (go_at_call 63; exact unhide CI _) | (go_at_call 62; exact later_call (pick_any _ _ _ _)))))))))); refine wpQuiet_nil ?_
          intro w4 hw4
          go_wp2
          go_meet
          exact ⟨by rw [e], hw4⟩
        | true =>
          rw [hf] at CI
          have e : lkN s n mo s fl fh fo = mo := by unfold lkN; rw [if_pos ⟨h0, rfl, hf⟩]
          refine wp_region_later w3 (by kernel_rfl) (by kernel_rfl) (by repeat (first | exact Below.refl _ _ | assumption | refine Below.alloc ?_ (by first | (simp; done) | (simp; omega) | omega) _ | refine Below.setCell ?_ (by first | (simp; done) | (simp; omega) | omega) _ | apply Below.drew | refine Below.trans ?_ (Below.mono (by assumption) (by first | (simp; done) | (simp; omega) | omega)))) ?_; (repeat (first | go_big_quiet_skip | (go_big_quiet_want; (first | ((fail); go_big_quiet_on; simp only [Act.put, List.setIfInBounds_toArray, List.set_cons_zero, List.set_cons_succ]) | (go_big_quiet_op; (first | go_big_quiet_on | go_big_quiet_call ((first | (go_at_call 63; exact unhide CI _) | (go_at_call 62; exact later_call (pick_any _ _ _ _)))))))))); refine wpQuiet_nil ?_
          intro w4 hw4
          go_wp2
          go_meet
          exact ⟨by rw [e], hw4⟩
      · have h1' : (s == fs) = false := by simpa using h1
        have e : lkN s n mo fs fl fh fo = n := by unfold lkN; rw [if_neg (fun h => h1 h.2.1)]
        refine wp_region_later w3 (by kernel_rfl) (by kernel_rfl) (by repeat (first | exact Below.refl _ _ | assumption | refine Below.alloc ?_ (by first | (simp; done) | (simp; omega) | omega) _ | refine Below.setCell ?_ (by first | (simp; done) | (simp; omega) | omega) _ | apply Below.drew | refine Below.trans ?_ (Below.mono (by assumption) (by first | (simp; done) | (simp; omega) | omega)))) ?_; (repeat (first | go_big_quiet_skip | (go_big_quiet_want; (first | ((fail); go_big_quiet_on; simp only [Act.put, List.setIfInBounds_toArray, List.set_cons_zero, List.set_cons_succ]) | (go_big_quiet_op; (first | go_big_quiet_on | go_big_quiet_call ((first | (go_at_call 63; exact unhide CI _) | (go_at_call 62; exact later_call (pick_any _ _ _ _)))))))))); refine wpQuiet_nil ?_
        intro w4 hw4
        go_wp2
        go_meet
        exact ⟨by rw [e], hw4⟩
  case rest =>
    obtain ⟨rfl, hB4⟩ := hcut
    obtain ⟨w4, hw4⟩ : ∃ w4, w4 = wc := ⟨_, rfl⟩
    subst hw4
    have HL4 := hide ((unhide HL3).keep hB4)
    have HM4 := hide ((unhide HM3).keep hB4)
    have HG4 := hide (gr_then (unhide HG3) hB4)
    have HF4 := hide ((unhide HF3).keep hB4)
    have HS4 := hide ((unhide HS3).keep hB4)
    clear HL3 HM3 HG3 HF3 HS3 hB4
    have CC := hide (fun W => claim_any fs fl fh fo s (lkN s n mo fs fl fh fo) W)
    rw [hcl] at CC
    unfold ClaimRes.val at CC
    obtain ⟨N, hN⟩ : ∃ N, lkN s n mo fs fl fh fo = N := ⟨_, rfl⟩
    rw [hN] at CC hcl ⊢
    have HN := hide hN
    clear hN
    have q1 := (unhide HL4).2.2
    have q0 : w.heap.size < w4.heap.size := by omega
    have q2 := (unhide HM4).1
    have q3 := (unhide HF4).2
    have x0 := (unhide HL4).1.1
    have x1 : w4.cell? ⟨m, 3, none⟩ = some (.int .i64 s) := ((unhide HM4).2 3 (by omega)).1
    obtain ⟨y0, y1, y2, y3⟩ := (unhide HF4).1
    go_upto_region 6 with fail
    go_cut [8, 10, 11] (fun s8 s10 s11 wx => ∃ p, s10 = .pointer (some ⟨p, 0, none⟩) ∧ s11 = .int .i64 ca ∧ s8 = .int .i64 ce ∧ Below w4.heap.size w4 wx ∧ Hid (Fr wx p cs cl ch co))
    case first =>
      go_region_held3 (fun W => Below w4.heap.size w4 W ∧ W.cell? ⟨w.heap.size, 0, none⟩ = some (.pointer (some ⟨m, 0, none⟩)) ∧ W.cell? ⟨m, 3, none⟩ = some (.int .i64 s) ∧ W.cell? ⟨w1.heap.size, 0, none⟩ = some (.int .i64 fs) ∧ W.cell? ⟨w1.heap.size, 1, none⟩ = some (.int .i64 fl) ∧ W.cell? ⟨w1.heap.size, 2, none⟩ = some (.int .i64 fh) ∧ W.cell? ⟨w1.heap.size, 3, none⟩ = some (.int .i64 fo)) (((refine and_dep ?_ (fun hkq => ⟨(hkq.cell (p := ⟨w.heap.size, 0, none⟩) q0).trans x0, (hkq.cell (p := ⟨m, 3, none⟩) q2).trans x1, (hkq.cell (p := ⟨w1.heap.size, 0, none⟩) q3).trans y0, (hkq.cell (p := ⟨w1.heap.size, 1, none⟩) q3).trans y1, (hkq.cell (p := ⟨w1.heap.size, 2, none⟩) q3).trans y2, (hkq.cell (p := ⟨w1.heap.size, 3, none⟩) q3).trans y3⟩)); repeat (first | exact Below.refl _ _ | assumption | refine Below.alloc ?_ (by first | (simp; done) | (simp; omega) | omega) _ | refine Below.setCell ?_ (by first | (simp; done) | (simp; omega) | omega) _ | apply Below.drew | refine Below.trans ?_ (Below.mono (by assumption) (by first | (simp; done) | (simp; omega) | omega)))))
        ((go_at_call 64; refine (unhide CC _).mono ?_; rintro e w5 ⟨rfl, hw5⟩; obtain ⟨hcw5, hfw5⟩ := bcell hw5; (try (simp only [World.size_drew, World.cell?_drew, World.frozen?_drew] at hcw5 hfw5)); have hzw5 := hw5.size; (try (simp only [World.size_alloc, World.size_setCell, World.size_drew] at hzw5)); (try (have hzw5_w_0 : w.heap.size < w5.heap.size := by omega)); (try (have hzw5_w_1 : w.heap.size + 1 < w5.heap.size := by omega)); (try (have hzw5_w_2 : w.heap.size + 1 + 1 < w5.heap.size := by omega)); (try (have hzw5_w_3 : w.heap.size + 1 + 1 + 1 < w5.heap.size := by omega)); (try (have hyw5_w : w.heap.size ≤ w5.heap.size := by omega)); (try (have hyw5_wa : w.heap.size + 1 ≤ w5.heap.size := by omega)); (try (have hzw5_w4_0 : w4.heap.size < w5.heap.size := by omega)); (try (have hzw5_w4_1 : w4.heap.size + 1 < w5.heap.size := by omega)); (try (have hzw5_w4_2 : w4.heap.size + 1 + 1 < w5.heap.size := by omega)); (try (have hzw5_w4_3 : w4.heap.size + 1 + 1 + 1 < w5.heap.size := by omega)); (try (have hyw5_w4 : w4.heap.size ≤ w5.heap.size := by omega)); (try (have hyw5_w4a : w4.heap.size + 1 ≤ w5.heap.size := by omega))))
      all_goals go_wp2_with fail
      all_goals go_meet
      all_goals refine ⟨_, rfl, rfl, rfl, by repeat (first | exact Below.refl _ _ | assumption | refine Below.alloc ?_ (by first | (simp; done) | (simp; omega) | omega) _ | refine Below.setCell ?_ (by first | (simp; done) | (simp; omega) | omega) _ | apply Below.drew | refine Below.trans ?_ (Below.mono (by assumption) (by first | (simp; done) | (simp; omega) | omega))), hide ⟨⟨by go_simp, by go_simp, by go_simp, by go_simp⟩, ?_⟩⟩
      all_goals first | (simp; done) | (simp; omega)
    case rest =>
      obtain ⟨p, rfl, rfl, rfl, hB5, HF5⟩ := hcut
      obtain ⟨w6, hw6⟩ : ∃ w6, w6 = wc := ⟨_, rfl⟩
      subst hw6
      have HL6 := hide ((unhide HL4).keep hB5)
      have HM6 := hide ((unhide HM4).keep hB5)
      have HG6 := hide (gr_then (unhide HG4) hB5)
      have HS6 := hide ((unhide HS4).keep hB5)
      clear HL4 HM4 HG4 HS4 HF4 hB5 x0 x1 y0 y1 y2 y3 q0 q1 q2 q3
      by_cases he : ce = 0
      · subst he
        go_upto_region 9 with fail
        have CB := hide (fun (v : Later w6) => later_call (layBase_any t sp s A len cap S hlen hS v.val ((unhide HS6).keep v.ok)))
        have hE : basE t sp s len S = 0 := hE0
        rw [hV, hE] at CB
        have u0 : ∀ v : Later w6, v.val.cell? ⟨w.heap.size, 0, none⟩ = some (.pointer (some ⟨m, 0, none⟩)) := Later.cell (by have := (unhide HL6).2.2; show w.heap.size < _; omega) (unhide HL6).1.1
        have u1 : ∀ v : Later w6, v.val.cell? ⟨m, 0, none⟩ = some (.int .i64 t) := Later.cell (unhide HM6).1 ((unhide HM6).2 0 (by omega)).1
        have u2 : ∀ v : Later w6, v.val.cell? ⟨m, 1, none⟩ = some (.int .i64 sp) := Later.cell (unhide HM6).1 ((unhide HM6).2 1 (by omega)).1
        have u3 : ∀ v : Later w6, v.val.cell? ⟨m, 2, none⟩ = some (.slice A len cap) := Later.cell (unhide HM6).1 ((unhide HM6).2 2 (by omega)).1
        have u4 : ∀ v : Later w6, v.val.cell? ⟨m, 3, none⟩ = some (.int .i64 s) := Later.cell (unhide HM6).1 ((unhide HM6).2 3 (by omega)).1
        refine wp_region_later w6 (by kernel_rfl) (by kernel_rfl) (by repeat (first | exact Below.refl _ _ | assumption | refine Below.alloc ?_ (by first | (simp; done) | (simp; omega) | omega) _ | refine Below.setCell ?_ (by first | (simp; done) | (simp; omega) | omega) _ | apply Below.drew | refine Below.trans ?_ (Below.mono (by assumption) (by first | (simp; done) | (simp; omega) | omega)))) ?_; (repeat (first | go_big_quiet_skip | (go_big_quiet_want; (first | ((fail); go_big_quiet_on; simp only [Act.put, List.setIfInBounds_toArray, List.set_cons_zero, List.set_cons_succ]) | (go_big_quiet_op; (first | go_big_quiet_on | go_big_quiet_call ((first | (go_at_call 36; exact unhide CB _))))))))); refine wpQuiet_nil ?_
        intro w7 hw7
        have HL7 := hide ((unhide HL6).keep hw7)
        have HM7 := hide ((unhide HM6).keep hw7)
        have HG7 := hide (gr_then (unhide HG6) hw7)
        have HF7 := hide ((unhide HF5).keep hw7)
        clear HL6 HM6 HG6 HS6 HF5 hw7 u0 u1 u2 u3 u4 CB
        obtain ⟨y0, y1, y2, y3⟩ := (unhide HF7).1
        go_wp2_with fail
        refine (front_any cs cl ch co _).mono ?_
        rintro e w8 ⟨rfl, hw8⟩
        have HL8 := hide ((unhide HL7).keep hw8)
        have HM8 := hide ((unhide HM7).keep hw8)
        have HG8 := hide (gr_then (unhide HG7) hw8)
        clear HL7 HM7 HG7 HF7 hw8 y0 y1 y2 y3
        obtain ⟨⟨b0, b1, b2, b3, b4⟩, ⟨z1, z2, z3, z4⟩, hs8⟩ := unhide HL8
        have hs8' : w.heap.size < w8.heap.size := by omega
        have c6 : w8.cell? ⟨m, 6, none⟩ = some (.int .i64 pl) := ((unhide HM8).2 6 (by omega)).1
        have c8 : w8.cell? ⟨m, 8, none⟩ = some (.int .u64 wa) := ((unhide HM8).2 8 (by omega)).1
        have c9 : w8.cell? ⟨m, 9, none⟩ = some (.int .i64 ge) := ((unhide HM8).2 9 (by omega)).1
        have c10 : w8.cell? ⟨m, 10, none⟩ = some (.int .i64 ga) := ((unhide HM8).2 10 (by omega)).1
        have c11 : w8.cell? ⟨m, 11, none⟩ = some (.int .i64 gg) := ((unhide HM8).2 11 (by omega)).1
        have k6 := ((unhide HM8).2 6 (by omega)).2
        have k8 := ((unhide HM8).2 8 (by omega)).2
        have k9 := ((unhide HM8).2 9 (by omega)).2
        have k10 := ((unhide HM8).2 10 (by omega)).2
        have k11 := ((unhide HM8).2 11 (by omega)).2
        have hne1' : m ≠ w.heap.size := by omega
        have hne2' : m ≠ w.heap.size + 1 := by omega
        have ew : IntKind.i64.wrap (V + ca) = V + ca := IntWalk.i64_in _ (by omega)
        go_wp2
        go_region
        all_goals go_wp2
        all_goals (refine bodyPost_ret (v := .tuple #[.agg #[.int .i64 3, .int .i64 1, .int .u64 x, .int .u64 (frontW cs cl ch co)], .bool true]) (by simp only [results, Try.results38]; go_simp) rfl ?_)
        all_goals refine ⟨rfl, ?_, ?_⟩
        all_goals clear b0 b1 b2 b3 b4 z1 z2 z3 z4 c6 c8 c9 c10 c11 k6 k8 k9 k10 k11
        all_goals first
          | ((repeat (first | (with_reducible exact unhide HG8) | (with_reducible refine gr_drew ?_) | (with_reducible refine gr_alloc ?_ _) | (with_reducible refine gr_set ?_ _) | (with_reducible refine gr_new ?_ (by omega) _))); done)
          | (rw [unhide HN]; refine IsM.congr (c := (up (up (up (up (up (mkC t sp A len cap s n mo pl tr wa ge ga gg oe oa og) 6 (.int .i64 3)) 8 (.int .u64 x)) 9 (.int .i64 0)) 10 (.int .i64 (V + ca))) 11 (.int .i64 N))) ?h1 ?h2; (case h1 => (repeat (first | (with_reducible exact unhide HM8) | (with_reducible refine IsM.drew ?_) | (with_reducible refine IsM.alloc ?_ _) | (with_reducible refine IsM.set ?_ (by omega) _) | (with_reducible refine IsM.far ?_ (by omega) _))); done); (case h2 => exact swp_eq))
          | (refine IsM.congr (c := (up (up (up (up (up (mkC t sp A len cap s n mo pl tr wa ge ga gg oe oa og) 6 (.int .i64 3)) 8 (.int .u64 x)) 9 (.int .i64 0)) 10 (.int .i64 (V + ca))) 11 (.int .i64 N))) ?h1 ?h2; (case h1 => (repeat (first | (with_reducible exact unhide HM8) | (with_reducible refine IsM.drew ?_) | (with_reducible refine IsM.alloc ?_ _) | (with_reducible refine IsM.set ?_ (by omega) _) | (with_reducible refine IsM.far ?_ (by omega) _))); done); (case h2 => exact swp_eq))
          | trace_state
      · have he' : (ce != 0) = true := by simpa using he
        have CG := CF
        obtain ⟨⟨b0, b1, b2, b3, b4⟩, ⟨z1, z2, z3, z4⟩, hs6⟩ := unhide HL6
        have hs6' : w.heap.size < w6.heap.size := by omega
        go_wp2_with fail
        refine (unhide CG _ _ (unhide HM6) hs6' hne1 b0).mono ?_
        rintro en w8 ⟨rfl, hw8⟩
        clear b0 b1 b2 b3 b4 z1 z2 z3 z4
        have HL8 := hide ((unhide HL6).grown hw8.1 hne1 hne2)
        have HM8 := hide hw8.2
        have HG8 := hide (gr_trans (unhide HG6) hw8.1)
        clear HL6 HM6 HG6 hw8
        obtain ⟨⟨b0, b1, b2, b3, b4⟩, ⟨z1, z2, z3, z4⟩, hs8⟩ := unhide HL8
        go_wp2
        refine bodyPost_ret (v := .tuple #[.agg #[.int .i64 0, .int .i64 0, .int .u64 0, .int .u64 0], .bool false]) (by simp only [results, Try.results38]; go_simp) rfl ?_
        refine ⟨fun _ => ⟨rfl, ?_, ?_⟩, fun h => absurd h he⟩
        · (repeat (first | (with_reducible exact unhide HG8) | (with_reducible refine gr_drew ?_) | (with_reducible refine gr_alloc ?_ _) | (with_reducible refine gr_set ?_ _) | (with_reducible refine gr_new ?_ (by omega) _))); done
        · (repeat (first | (with_reducible exact unhide HM8) | (with_reducible refine IsM.drew ?_) | (with_reducible refine IsM.alloc ?_ _) | (with_reducible refine IsM.set ?_ (by omega) _) | (with_reducible refine IsM.far ?_ (by omega) _))); done
end Go.Proofs.Ytnnllhlcpmmcaaa
