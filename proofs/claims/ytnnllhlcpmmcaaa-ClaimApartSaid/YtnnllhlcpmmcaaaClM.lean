/- The reference of package claim: a frontier's word looked at, a claim that does not fit. -/
import Derived.Test.YtnnllhlcpmmcaaaClJ
import Derived.Deep.DeepCutAuto
namespace Go.Proofs.Ytnnllhlcpmmcaaa
set_option linter.unusedVariables false
set_option linter.unusedSimpArgs false
open Go.RowKit

/-- How many words: the walk's ways. -/
theorem lk_ways (s n mo fs fl fh fo : Int) : ∃ T : Bool, lkN s n mo fs fl fh fo = (if T = true then mo else n) ∧ ((mo = 0 ∧ T = false) ∨ (mo ≠ 0 ∧ s ≠ fs ∧ T = false) ∨ (mo ≠ 0 ∧ s = fs ∧ fitsB fs fl fh fo mo = T)) := by
  unfold lkN
  by_cases h1 : mo = 0
  · exact ⟨false, by rw [if_neg (fun h => h.1 h1)]; rfl, .inl ⟨h1, rfl⟩⟩
  by_cases h2 : s = fs
  · cases h3 : fitsB fs fl fh fo mo
    · exact ⟨false, by rw [if_neg (fun h => by simp at h)]; rfl, .inr (.inr ⟨h1, h2, rfl⟩)⟩
    · exact ⟨true, by rw [if_pos ⟨h1, h2, rfl⟩]; rfl, .inr (.inr ⟨h1, h2, rfl⟩)⟩
  · exact ⟨false, by rw [if_neg (fun h => h2 h.2.1)]; rfl, .inr (.inl ⟨h1, h2, rfl⟩)⟩

set_option maxRecDepth 100000 in
set_option maxHeartbeats 8000000 in
theorem refLook_c (t sp : Int) (A : Option Addr) (len cap : Nat) (s n mo pl tr wa ga gg oe oa og x fs fl fh fo cs cl ch co ca ce N : Int) (w : World) (hx0 : 0 ≤ x) (hx : x ≤ 18446744073709551615) (hb : ofFrontF x = ⟨fs, fl, fh, fo, 0⟩) (hle : fh ≤ sp)
    (hN : lkN s n mo fs fl fh fo = N) (hcl : claimF fs fl fh fo s N = ⟨cs, cl, ch, co, ca, ce⟩) (he : ce ≠ 0) :
    Calls Try.prog 41 #[.agg #[.int .i64 t, .int .i64 sp, .slice A len cap, .int .i64 s, .int .i64 n, .int .i64 mo, .int .i64 pl, .int .i64 tr, .int .u64 wa, .int .i64 ga, .int .i64 gg, .int .i64 oe, .int .i64 oa, .int .i64 og], .int .u64 x] w
      fun en w' => en = .returned (.tuple #[.agg #[.int .i64 t, .int .i64 sp, .slice A len cap, .int .i64 s, .int .i64 n, .int .i64 mo, .int .i64 3, .int .i64 tr, .int .u64 wa, .int .i64 ga, .int .i64 gg, .int .i64 184, .int .i64 0, .int .i64 0], .agg #[.int .i64 0, .int .i64 0, .int .u64 0, .int .u64 0], .bool false]) ∧ Below w.heap.size w w' := by
  have CO := hide (fun W => refOfFront_any x W hx0 hx)
  rw [hb] at CO
  have CI := hide (fun W => refFits_any fs fl fh fo mo W)
  have CC := hide (fun W => refClaim_any fs fl fh fo s N W)
  rw [hcl] at CC
  have g1 : ¬ sp < fh := by omega
  obtain ⟨T, hT, hW0⟩ := lk_ways s n mo fs fl fh fo
  have HW := hide hW0
  rw [hN] at hT
  have HT := hide hT
  clear hb hcl hN hW0 hT
  go_enter Try.func41, Try.ntmps41
  go_wp2_with fail
  refine (unhide CO _).mono ?_
  unfold FrontRes.val
  rintro en w1 ⟨rfl, hw1⟩
  have hr0 := Rs.new (w.alloc (.cells #[.int .i64 t, .int .i64 sp, .slice A len cap, .int .i64 s, .int .i64 n, .int .i64 mo, .int .i64 pl, .int .i64 tr, .int .u64 wa, .int .i64 ga, .int .i64 gg, .int .i64 oe, .int .i64 oa, .int .i64 og] 40)) 40 44
  have hz0 := hw1.size
  simp only [World.size_alloc] at hr0 hz0
  have HR1 := hide (hr0.keep hw1)
  have HB1 := hide ((((Bx.new w 40 t sp A len cap s n mo pl tr wa ga gg oe oa og).keep ((Below.refl _ _).alloc (Nat.le_refl _) _)).keep ((Below.refl _ _).alloc (Nat.le_refl _) _)).keep hw1)
  have B1 : Below w.heap.size w w1 := by repeat (first | exact Below.refl _ _ | assumption | refine Below.alloc ?_ (by first | (simp; done) | (simp; omega) | omega) _ | refine Below.setCell ?_ (by first | (simp; done) | (simp; omega) | omega) _ | apply Below.drew | refine Below.trans ?_ (Below.mono (by assumption) (by first | (simp; done) | (simp; omega) | omega)))
  have hq1 : w.heap.size < w1.heap.size := by omega
  clear hr0 hw1 hz0
  go_upto_region 2 with fail
  generalize hW : World.alloc w1 _ = W2
  have hB2 : Below w1.heap.size w1 W2 := by rw [← hW]; exact (Below.refl _ _).alloc (Nat.le_refl _) _
  have HF2 : Hid (Fr W2 w1.heap.size fs fl fh fo) := hide (by rw [← hW]; exact Fr.new ..)
  have HR2 := hide ((unhide HR1).keep hB2)
  have HB2 := hide ((unhide HB1).keep hB2)
  have HBL2 := hide (B1.trans (hB2.mono (by omega)))
  have hq2 : w1.heap.size < W2.heap.size := (unhide HF2).2
  clear hW hB2 HR1 HB1 B1
  (have bx0 : (W2).cell? ⟨w.heap.size, 0, none⟩ = some (.int .i64 t) := ((unhide HB2).2 0 (by omega)).1); (have bx1 : (W2).cell? ⟨w.heap.size, 1, none⟩ = some (.int .i64 sp) := ((unhide HB2).2 1 (by omega)).1); (have bx2 : (W2).cell? ⟨w.heap.size, 2, none⟩ = some (.slice A len cap) := ((unhide HB2).2 2 (by omega)).1); (have bx3 : (W2).cell? ⟨w.heap.size, 3, none⟩ = some (.int .i64 s) := ((unhide HB2).2 3 (by omega)).1); (have bx4 : (W2).cell? ⟨w.heap.size, 4, none⟩ = some (.int .i64 n) := ((unhide HB2).2 4 (by omega)).1); (have bx5 : (W2).cell? ⟨w.heap.size, 5, none⟩ = some (.int .i64 mo) := ((unhide HB2).2 5 (by omega)).1); (have bx6 : (W2).cell? ⟨w.heap.size, 6, none⟩ = some (.int .i64 pl) := ((unhide HB2).2 6 (by omega)).1); (have bx7 : (W2).cell? ⟨w.heap.size, 7, none⟩ = some (.int .i64 tr) := ((unhide HB2).2 7 (by omega)).1); (have bx8 : (W2).cell? ⟨w.heap.size, 8, none⟩ = some (.int .u64 wa) := ((unhide HB2).2 8 (by omega)).1); (have bx9 : (W2).cell? ⟨w.heap.size, 9, none⟩ = some (.int .i64 ga) := ((unhide HB2).2 9 (by omega)).1); (have bx10 : (W2).cell? ⟨w.heap.size, 10, none⟩ = some (.int .i64 gg) := ((unhide HB2).2 10 (by omega)).1); (have bx11 : (W2).cell? ⟨w.heap.size, 11, none⟩ = some (.int .i64 oe) := ((unhide HB2).2 11 (by omega)).1); (have bx12 : (W2).cell? ⟨w.heap.size, 12, none⟩ = some (.int .i64 oa) := ((unhide HB2).2 12 (by omega)).1); (have bx13 : (W2).cell? ⟨w.heap.size, 13, none⟩ = some (.int .i64 og) := ((unhide HB2).2 13 (by omega)).1)
  obtain ⟨⟨y0, y1, y2, y3⟩, hy⟩ := unhide HF2
  go_upto_region 5 with fail
  go_cut [52] (fun s52 wx => s52 = .bool T ∧ Below W2.heap.size W2 wx)
  case first =>
    rcases unhide HW with ⟨k1, k2⟩ | ⟨k1, k2, k3⟩ | ⟨k1, rfl, k3⟩
    · subst k1
      subst k2
      go_wp2
      go_meet
      exact ⟨rfl, Below.refl _ _⟩
    · have k1' : (mo != 0) = true := by simpa using k1
      have k2' : (s == fs) = false := by simpa using k2
      subst k3
      go_wp2
      go_meet
      exact ⟨rfl, Below.refl _ _⟩
    · have k1' : (mo != 0) = true := by simpa using k1
      rw [k3] at CI
      clear k1 k3
      go_wp2_with fail
      refine (unhide CI _).mono ?_
      rintro en w5 ⟨rfl, hw5⟩
      go_wp2
      go_meet
      exact ⟨rfl, hw5⟩
  case rest =>
    obtain ⟨rfl, hB4⟩ := hcut
    obtain ⟨w4, hw4⟩ : ∃ w4, w4 = wc := ⟨_, rfl⟩
    subst hw4
    have HR4 := hide ((unhide HR2).keep hB4)
    have HB4 := hide ((unhide HB2).keep hB4)
    have HF4 := hide ((unhide HF2).keep hB4)
    have HBL4 := hide ((unhide HBL2).trans (hB4.mono (by omega)))
    have hq4 : w1.heap.size < w4.heap.size := (unhide HF4).2
    have hq5 : w.heap.size < w4.heap.size := (unhide HB4).1
    clear bx0 bx1 bx2 bx3 bx4 bx5 bx6 bx7 bx8 bx9 bx10 bx11 bx12 bx13
    clear y0 y1 y2 y3 hy hB4 HR2 HB2 HF2 HBL2 hq2 HW CI
    (have bx0 : (w4).cell? ⟨w.heap.size, 0, none⟩ = some (.int .i64 t) := ((unhide HB4).2 0 (by omega)).1); (have bx1 : (w4).cell? ⟨w.heap.size, 1, none⟩ = some (.int .i64 sp) := ((unhide HB4).2 1 (by omega)).1); (have bx2 : (w4).cell? ⟨w.heap.size, 2, none⟩ = some (.slice A len cap) := ((unhide HB4).2 2 (by omega)).1); (have bx3 : (w4).cell? ⟨w.heap.size, 3, none⟩ = some (.int .i64 s) := ((unhide HB4).2 3 (by omega)).1); (have bx4 : (w4).cell? ⟨w.heap.size, 4, none⟩ = some (.int .i64 n) := ((unhide HB4).2 4 (by omega)).1); (have bx5 : (w4).cell? ⟨w.heap.size, 5, none⟩ = some (.int .i64 mo) := ((unhide HB4).2 5 (by omega)).1); (have bx6 : (w4).cell? ⟨w.heap.size, 6, none⟩ = some (.int .i64 pl) := ((unhide HB4).2 6 (by omega)).1); (have bx7 : (w4).cell? ⟨w.heap.size, 7, none⟩ = some (.int .i64 tr) := ((unhide HB4).2 7 (by omega)).1); (have bx8 : (w4).cell? ⟨w.heap.size, 8, none⟩ = some (.int .u64 wa) := ((unhide HB4).2 8 (by omega)).1); (have bx9 : (w4).cell? ⟨w.heap.size, 9, none⟩ = some (.int .i64 ga) := ((unhide HB4).2 9 (by omega)).1); (have bx10 : (w4).cell? ⟨w.heap.size, 10, none⟩ = some (.int .i64 gg) := ((unhide HB4).2 10 (by omega)).1); (have bx11 : (w4).cell? ⟨w.heap.size, 11, none⟩ = some (.int .i64 oe) := ((unhide HB4).2 11 (by omega)).1); (have bx12 : (w4).cell? ⟨w.heap.size, 12, none⟩ = some (.int .i64 oa) := ((unhide HB4).2 12 (by omega)).1); (have bx13 : (w4).cell? ⟨w.heap.size, 13, none⟩ = some (.int .i64 og) := ((unhide HB4).2 13 (by omega)).1)
    obtain ⟨⟨y0, y1, y2, y3⟩, hy⟩ := unhide HF4
    go_upto_if 52 with fail
    go_cut [9] (fun s9 wx => s9 = .int .i64 N ∧ w4 = wx)
    case first =>
      cases T
      · have e1 : N = n := by simpa using unhide HT
        go_wp2
        go_meet
        exact ⟨by rw [e1], rfl⟩
      · have e1 : N = mo := by simpa using unhide HT
        go_wp2
        go_meet
        exact ⟨by rw [e1], rfl⟩
    case rest =>
      obtain ⟨rfl, rfl⟩ := hcut
      go_wp2_with fail
      refine (unhide CC _).mono ?_
      unfold ClaimRes.val
      rintro en w6 ⟨rfl, hw6⟩
      have HR6 := hide ((unhide HR4).keep hw6)
      have HB6 := hide ((unhide HB4).keep hw6)
      have HBL6 := hide ((unhide HBL4).trans (hw6.mono (by omega)))
      have hz6 := hw6.size
      have hq6 : w.heap.size < w6.heap.size := (unhide HB6).1
      clear bx0 bx1 bx2 bx3 bx4 bx5 bx6 bx7 bx8 bx9 bx10 bx11 bx12 bx13
      clear y0 y1 y2 y3 hy hw6 HR4 HB4 HF4 HBL4 hq4 hq5 CC
      (have bx0 : (w6).cell? ⟨w.heap.size, 0, none⟩ = some (.int .i64 t) := ((unhide HB6).2 0 (by omega)).1); (have bx1 : (w6).cell? ⟨w.heap.size, 1, none⟩ = some (.int .i64 sp) := ((unhide HB6).2 1 (by omega)).1); (have bx2 : (w6).cell? ⟨w.heap.size, 2, none⟩ = some (.slice A len cap) := ((unhide HB6).2 2 (by omega)).1); (have bx3 : (w6).cell? ⟨w.heap.size, 3, none⟩ = some (.int .i64 s) := ((unhide HB6).2 3 (by omega)).1); (have bx4 : (w6).cell? ⟨w.heap.size, 4, none⟩ = some (.int .i64 n) := ((unhide HB6).2 4 (by omega)).1); (have bx5 : (w6).cell? ⟨w.heap.size, 5, none⟩ = some (.int .i64 mo) := ((unhide HB6).2 5 (by omega)).1); (have bx6 : (w6).cell? ⟨w.heap.size, 6, none⟩ = some (.int .i64 pl) := ((unhide HB6).2 6 (by omega)).1); (have bx7 : (w6).cell? ⟨w.heap.size, 7, none⟩ = some (.int .i64 tr) := ((unhide HB6).2 7 (by omega)).1); (have bx8 : (w6).cell? ⟨w.heap.size, 8, none⟩ = some (.int .u64 wa) := ((unhide HB6).2 8 (by omega)).1); (have bx9 : (w6).cell? ⟨w.heap.size, 9, none⟩ = some (.int .i64 ga) := ((unhide HB6).2 9 (by omega)).1); (have bx10 : (w6).cell? ⟨w.heap.size, 10, none⟩ = some (.int .i64 gg) := ((unhide HB6).2 10 (by omega)).1); (have bx11 : (w6).cell? ⟨w.heap.size, 11, none⟩ = some (.int .i64 oe) := ((unhide HB6).2 11 (by omega)).1); (have bx12 : (w6).cell? ⟨w.heap.size, 12, none⟩ = some (.int .i64 oa) := ((unhide HB6).2 12 (by omega)).1); (have bx13 : (w6).cell? ⟨w.heap.size, 13, none⟩ = some (.int .i64 og) := ((unhide HB6).2 13 (by omega)).1)
      have he' : (ce != 0) = true := by simpa using he
      go_wp2_with fail
      refine (refEnd_any t sp A len cap s _ _ pl tr wa ga gg oe oa og 184 0 0 _).mono ?_
      rintro en w7 ⟨rfl, hw7⟩
      have B67 : Below w6.heap.size w6 w7 := by repeat (first | exact Below.refl _ _ | assumption | refine Below.alloc ?_ (by first | (simp; done) | (simp; omega) | omega) _ | refine Below.setCell ?_ (by first | (simp; done) | (simp; omega) | omega) _ | apply Below.drew | refine Below.trans ?_ (Below.mono (by assumption) (by first | (simp; done) | (simp; omega) | omega)))
      have B7 : Below w.heap.size w w7 := (unhide HBL6).trans (B67.mono (by omega))
      have HR7 := hide ((unhide HR6).keep B67)
      clear bx0 bx1 bx2 bx3 bx4 bx5 bx6 bx7 bx8 bx9 bx10 bx11 bx12 bx13
      clear hw7 B67 HR6 HB6 HBL6
      (obtain ⟨hrs, ⟨rc0, rc1, rc2, rc3, rc4, rc5, rc6, rc7, rc8, rc9, rc10, rc11, rc12, rc13⟩, ⟨rd0, rd1, rd2, rd3⟩, ⟨rf0, rf1, rf2, rf3, rf4, rf5, rf6, rf7, rf8, rf9, rf10, rf11, rf12, rf13⟩, ⟨rg0, rg1, rg2, rg3⟩⟩ := unhide HR7)
      go_wp2
      refine bodyPost_ret (v := .tuple #[.agg #[.int .i64 t, .int .i64 sp, .slice A len cap, .int .i64 s, .int .i64 n, .int .i64 mo, .int .i64 3, .int .i64 tr, .int .u64 wa, .int .i64 ga, .int .i64 gg, .int .i64 184, .int .i64 0, .int .i64 0], .agg #[.int .i64 0, .int .i64 0, .int .u64 0, .int .u64 0], .bool false]) (by simp only [results, Try.results41]; go_simp) rfl ?_
      exact ⟨rfl, by repeat (first | (with_reducible exact Below.refl _ _) | (with_reducible assumption) | (with_reducible refine Below.setCell ?_ (by first | (simp; done) | (simp; omega) | omega) _) | (with_reducible refine Below.alloc ?_ (by first | (simp; done) | (simp; omega) | omega) _) | (with_reducible refine Below.drew ?_))⟩

end Go.Proofs.Ytnnllhlcpmmcaaa
