/- The laws of layer 14: do claims share no word? -/
import Derived.Test.YtnnllhlcpmmcaaaClV
import Derived.Deep.DeepCutAuto
namespace Go.Proofs.Ytnnllhlcpmmcaaa
set_option linter.unusedVariables false
set_option linter.unusedSimpArgs false
open Go.RowKit

theorem space_eq {a V sp d : Int} (hs : 1 ≤ sp) (hd : d = 0 ∨ d = 1) (h1 : V + d * sp ≤ a) (h2 : a < V + (d + 1) * sp) : (a - V) / sp = d := by
  have hp : 0 < sp := by omega
  have e1 : d ≤ (a - V) / sp := (Int.le_ediv_iff_mul_le hp).2 (by omega)
  have e2 : (a - V) / sp < d + 1 := (Int.ediv_lt_iff_lt_mul hp).2 (by omega)
  omega

set_option maxHeartbeats 2000000 in
theorem space06_any (t sp a d : Int) (s : Value) (ht : 1 ≤ t ∧ t ≤ 8) (hs : 32 ≤ sp ∧ sp ≤ 4096) (hv : ∃ A len cap, s = .slice A len cap) (hd : d = 0 ∨ d = 1) (h1 : bas t sp 0 + d * sp ≤ a) (h2 : a < bas t sp 0 + (d + 1) * sp) (w : World) :
    Calls Try.prog 53 #[.agg #[.int .i64 t, .int .i64 sp, s], .int .i64 a] w fun en w' => en = .returned (.int .i64 d) ∧ Below w.heap.size w w' := by
  have hq := space_eq (by omega) hd h1 h2
  obtain ⟨N, hN⟩ : ∃ N : Nat, (N : Int) = 3 + 2 * t + 2 * sp := ⟨(3 + 2 * t + 2 * sp).toNat, by omega⟩
  have CB := hide (fun W => refBase_any t sp 0 s ht hs (.inl rfl) hv W)
  have CS := hide (fun W => size06_any t sp s N ht hs hv hN W)
  have hV : bas t sp 0 = 3 + 2 * t := by unfold bas; omega
  have a1 : bas t sp 0 ≤ a ∧ a < (N : Int) := by rcases hd with e | e <;> subst e <;> omega
  obtain ⟨A, len, cap, rfl⟩ := hv
  have hVb : 0 ≤ bas t sp 0 ∧ bas t sp 0 ≤ 100 := by omega
  have hNb : (N : Int) ≤ 10000 := by omega
  generalize bas t sp 0 = V at *
  have HQ := hide hq
  obtain ⟨a2, a3⟩ := a1
  obtain ⟨v1, v2⟩ := hVb
  obtain ⟨s1, s2⟩ := hs
  have g1 : ¬ a < V := by omega
  have g2 : ¬ (N : Int) ≤ a := by omega
  have g3 : ¬ sp = 0 := by omega
  have g4 : (sp == 0) = false := by simp; omega
  have g5 : 0 ≤ a - V := by omega
  have g6 : a ≤ 10000 := by omega
  have g7 : 0 ≤ a := by omega
  have g8 : 0 < sp := by omega
  clear hq hN hV hd h1 h2 ht
  go_enter Try.func53, Try.ntmps53
  go_wp2_with fail
  refine (unhide CB _).mono ?_
  rintro e w1 ⟨rfl, hw1⟩; obtain ⟨hcw1, hfw1⟩ := bcell hw1; (try (simp only [World.size_drew, World.cell?_drew, World.frozen?_drew] at hcw1 hfw1)); have hzw1 := hw1.size; (try (simp only [World.size_alloc, World.size_setCell, World.size_drew] at hzw1)); (try (have hzw1_w_0 : w.heap.size < w1.heap.size := by omega)); (try (have hzw1_w_1 : w.heap.size + 1 < w1.heap.size := by omega)); (try (have hzw1_w_2 : w.heap.size + 1 + 1 < w1.heap.size := by omega)); (try (have hzw1_w_3 : w.heap.size + 1 + 1 + 1 < w1.heap.size := by omega)); (try (have hyw1_w : w.heap.size ≤ w1.heap.size := by omega)); (try (have hyw1_wa : w.heap.size + 1 ≤ w1.heap.size := by omega))
  go_wp2_with fail
  refine (unhide CS _).mono ?_
  rintro e w2 ⟨rfl, hw2⟩; obtain ⟨hcw2, hfw2⟩ := bcell hw2; (try (simp only [World.size_drew, World.cell?_drew, World.frozen?_drew] at hcw2 hfw2)); have hzw2 := hw2.size; (try (simp only [World.size_alloc, World.size_setCell, World.size_drew] at hzw2)); (try (have hzw2_w_0 : w.heap.size < w2.heap.size := by omega)); (try (have hzw2_w_1 : w.heap.size + 1 < w2.heap.size := by omega)); (try (have hzw2_w_2 : w.heap.size + 1 + 1 < w2.heap.size := by omega)); (try (have hzw2_w_3 : w.heap.size + 1 + 1 + 1 < w2.heap.size := by omega)); (try (have hyw2_w : w.heap.size ≤ w2.heap.size := by omega)); (try (have hyw2_wa : w.heap.size + 1 ≤ w2.heap.size := by omega)); (try (have hzw2_w1_0 : w1.heap.size < w2.heap.size := by omega)); (try (have hzw2_w1_1 : w1.heap.size + 1 < w2.heap.size := by omega)); (try (have hzw2_w1_2 : w1.heap.size + 1 + 1 < w2.heap.size := by omega)); (try (have hzw2_w1_3 : w1.heap.size + 1 + 1 + 1 < w2.heap.size := by omega)); (try (have hyw2_w1 : w1.heap.size ≤ w2.heap.size := by omega)); (try (have hyw2_w1a : w1.heap.size + 1 ≤ w2.heap.size := by omega))
  go_wp2
  go_ret
  exact ⟨ret_int (unhide HQ), by repeat (first | exact Below.refl _ _ | assumption | refine Below.alloc ?_ (by first | (simp; done) | (simp; omega) | omega) _ | refine Below.setCell ?_ (by first | (simp; done) | (simp; omega) | omega) _ | apply Below.drew | refine Below.trans ?_ (Below.mono (by assumption) (by first | (simp; done) | (simp; omega) | omega)))⟩

/-- What is asked of the ends of claims. -/
def FinOk (t sp c0 : Int) (L : Nat) (Ms : Nat → Mc) : Prop :=
  (∀ i, i < L → (Ms i).pl = 4 → (Ms i).oe = 0 → 1 ≤ (Ms i).og ∧ bas t sp 0 + c0 ≤ (Ms i).oa ∧ ∃ d : Int, (d = 0 ∨ d = 1) ∧ bas t sp 0 + d * sp ≤ (Ms i).oa ∧ (Ms i).oa + (Ms i).og ≤ bas t sp 0 + (d + 1) * sp) ∧
  (∀ i k, i < L → k < i → (Ms i).pl = 4 → (Ms i).oe = 0 → (Ms k).pl = 4 → (Ms k).oe = 0 → ¬ ((Ms i).oa < (Ms k).oa + (Ms k).og ∧ (Ms k).oa < (Ms i).oa + (Ms i).og))

/-- The machines, in a slice of pointers. -/
def Mach (W : World) (Av : Option Addr) (L : Nat) (ms : Nat → Nat) (qs : Nat → Ask) (Ms : Nat → Mc) : Prop :=
  ∀ j, j < L → (∃ B, Av = some ⟨B, 0, none⟩ ∧ B < W.heap.size ∧ W.cell? ⟨B, j, none⟩ = some (.pointer (some ⟨ms j, 0, none⟩))) ∧ IsM W (ms j) ((Ms j).c (qs j)) ∧ (Ms j).ok

theorem Mach.keep {w W : World} {Av : Option Addr} {L : Nat} {ms : Nat → Nat} {qs : Nat → Ask} {Ms : Nat → Mc} (H : Mach w Av L ms qs Ms) (hb : Below w.heap.size w W) : Mach W Av L ms qs Ms := fun j hj => by
  obtain ⟨⟨B, e, hB, hc⟩, hI, hk⟩ := H j hj
  exact ⟨⟨B, e, Nat.lt_of_lt_of_le hB hb.size, (hb.cell (p := ⟨B, j, none⟩) hB).trans hc⟩, hI.keep hb, hk⟩

set_option maxRecDepth 100000 in
set_option maxHeartbeats 8000000 in
theorem apart_any (t sp : Int) (A : Option Addr) (len cap : Nat) (S : Nat → ByteArray) (Av : Option Addr) (L C : Nat) (ms : Nat → Nat) (qs : Nat → Ask) (Ms : Nat → Mc) (w : World) (hp : okP t sp len S) (H : ShOk w A len S) (hL : L ≤ 8) (hC : L ≤ C) (HM : Mach w Av L ms qs Ms) (HF : FinOk t sp (2 + ((S 0).size : Nat)) L Ms) :
    Calls Try.prog 25 #[.agg #[.int .i64 t, .int .i64 sp, .slice A len cap], .slice Av L C] w fun en w' => en = .returned (.bool true) ∧ Below w.heap.size w w' := by
  obtain ⟨ht, hs, hT1, hT2, hT3⟩ := hp
  have h8 := (hT3 0 (by omega)).1
  obtain ⟨b0, o0, rfl, hb0, hc0⟩ := H (by omega)
  have cs := hc0 0 (by omega)
  simp only [Nat.add_zero] at cs
  have hln : (0 : Int) < len := by omega
  have CB := hide (fun W => refBase_any t sp 0 (.slice (some ⟨b0, o0, none⟩) len cap) ht hs (.inl rfl) ⟨_, _, _, rfl⟩ W)
  have CS := hide (fun (a d : Int) W => space06_any t sp a d (.slice (some ⟨b0, o0, none⟩) len cap) ht hs ⟨_, _, _, rfl⟩ (w := W))
  have hV : 0 ≤ bas t sp 0 ∧ bas t sp 0 ≤ 100 := by unfold bas; omega
  have hs2 := hs.2
  have hs1 := hs.1
  have HMM := hide HM
  have HFF := hide HF
  clear HM HF hT3 hc0 H hT1 hT2 ht hs
  unfold FinOk at HFF
  generalize S 0 = S0 at *
  generalize bas t sp 0 = V at *
  obtain ⟨v1, v2⟩ := hV
  go_enter Try.func25, Try.ntmps25
  go_wp2_with fail
  refine (unhide CB _).mono ?_
  rintro e w1 ⟨rfl, hw1⟩; obtain ⟨hcw1, hfw1⟩ := bcell hw1; (try (simp only [World.size_drew, World.cell?_drew, World.frozen?_drew] at hcw1 hfw1)); have hzw1 := hw1.size; (try (simp only [World.size_alloc, World.size_setCell, World.size_drew] at hzw1)); (try (have hzw1_w_0 : w.heap.size < w1.heap.size := by omega)); (try (have hzw1_w_1 : w.heap.size + 1 < w1.heap.size := by omega)); (try (have hzw1_w_2 : w.heap.size + 1 + 1 < w1.heap.size := by omega)); (try (have hzw1_w_3 : w.heap.size + 1 + 1 + 1 < w1.heap.size := by omega)); (try (have hyw1_w : w.heap.size ≤ w1.heap.size := by omega)); (try (have hyw1_wa : w.heap.size + 1 ≤ w1.heap.size := by omega))
  have B1 : Below w.heap.size w w1 := by repeat (first | exact Below.refl _ _ | assumption | refine Below.alloc ?_ (by first | (simp; done) | (simp; omega) | omega) _ | refine Below.setCell ?_ (by first | (simp; done) | (simp; omega) | omega) _ | apply Below.drew | refine Below.trans ?_ (Below.mono (by assumption) (by first | (simp; done) | (simp; omega) | omega)))
  have HP1 : Hid (BoxP w1 w.heap.size t sp (some ⟨b0, o0, none⟩) len cap) := hide ⟨by omega, by go_simp, by go_simp, by go_simp⟩
  have HB1 := hide B1
  have HC1 : Hid (w1.cell? ⟨b0, o0, none⟩ = some (.string S0) ∧ b0 < w1.heap.size) := hide ⟨(B1.cell (p := ⟨b0, o0, none⟩) hb0).trans cs, by have := B1.size; omega⟩
  have HMr1 := hide ((unhide HMM).keep B1)
  clear hcw1 hfw1 hw1 B1 HMM cs
  go_wp2
  go_loopw [6] (fun i wr => ∃ k : Nat, k ≤ L ∧ i = .int .i64 k ∧ Hid (Below w1.heap.size w1 wr)) (fun i _ => L - (intOf i).toNat)
  case atStart => exact ⟨0, by omega, rfl, hide (Below.refl _ _)⟩
  case round =>
    obtain ⟨k, hk, rfl, HB⟩ := hrel
    by_cases hlt : k < L
    · obtain ⟨⟨B, rfl, hBl, hBc⟩, hI, hok⟩ := (unhide HMr1).keep (unhide HB) k hlt
      have HI := hide hI
      have HOK := hide hok
      have b0' : (0 : Int) ≤ (k : Int) := by omega
      have b1 : (k : Int) < (L : Int) := by omega
      have HFk := hide ((unhide HFF).1 k hlt)
      have HFd := hide ((unhide HFF).2 k)
      generalize hMk : Ms k = Mk at HI HOK HFk
      have HMk := hide hMk
      clear hI hok hMk
      go_wp2_with fail
      refine (outM_any (qs k) Mk (ms k) _ (unhide HI) (unhide HOK)).mono ?_
      rintro en w2 ⟨rfl, hw2⟩
      have HB2 := hide ((unhide HB).trans (hw2.mono (unhide HB).size))
      have hBa : Below w2.heap.size w2 (w2.alloc (.cells #[.int .i64 Mk.oe, .int .i64 Mk.oa, .int .i64 Mk.og] 38)) := (Below.refl _ _).alloc (Nat.le_refl _) _
      have HO3 := hide (Cl3.new w2 38 Mk.oe Mk.oa Mk.og)
      have HB3 := hide ((unhide HB2).trans (hBa.mono (unhide HB2).size))
      go_upto_region 6 with fail
      generalize w2.heap.size = O at *
      generalize w2.alloc (.cells #[.int .i64 Mk.oe, .int .i64 Mk.oa, .int .i64 Mk.og] 38) = w3 at *
      clear hBc hBl hw2 HB hBa HB2 HI
      by_cases h4 : Mk.pl = 4
      · have e4 : (Mk.pl - 1 == 3) = true := by rw [h4]; rfl
        rw [e4]
        by_cases he : Mk.oe = 0
        · obtain ⟨f1, f2, d, fd, f3, f4⟩ := unhide HFk h4 he
          have he' : (Mk.oe != 0) = false := by simp [he]
          have f5 : V + d * sp ≤ 20000 := by rcases fd with e | e <;> subst e <;> omega
          have f5b : V + (d + 1) * sp ≤ 20000 := by rcases fd with e | e <;> subst e <;> omega
          have f5c : V ≤ V + d * sp := by rcases fd with e | e <;> subst e <;> omega
          have CSa := hide (fun W => unhide CS Mk.oa d W fd f3 (by omega))
          have CSb := hide (fun W => unhide CS (Mk.oa + Mk.og - 1) d W fd (by omega) (by omega))
          obtain ⟨oa, hoa⟩ : ∃ x, Mk.oa = x := ⟨_, rfl⟩
          obtain ⟨og, hog⟩ : ∃ x, Mk.og = x := ⟨_, rfl⟩
          obtain ⟨oe, hoe⟩ : ∃ x, Mk.oe = x := ⟨_, rfl⟩
          rw [hoa, hog, hoe] at HO3
          rw [hoa] at CSa CSb f2 f3 f4
          rw [hog] at CSb f1 f4
          rw [hoe] at he'
          rw [hoe] at he
          have HE := hide (show Mk.oe = oe ∧ Mk.oa = oa ∧ Mk.og = og from ⟨hoe, hoa, hog⟩)
          clear HFk hoa hog hoe e4
          have HP3 := hide ((unhide HP1).keep (unhide HB3))
          have HC3 : Hid (w3.cell? ⟨b0, o0, none⟩ = some (.string S0) ∧ b0 < w3.heap.size) := hide ⟨((unhide HB3).cell (p := ⟨b0, o0, none⟩) (unhide HC1).2).trans (unhide HC1).1, Nat.lt_of_lt_of_le (unhide HC1).2 (unhide HB3).size⟩
          have g1 : ¬ og < 1 := by omega
          have g2 : ¬ oa < V + 2 + (S0.size : Int) := by omega
          have g3 : 0 ≤ oa := by omega
          have g4 : oa ≤ 20000 := by omega
          have g5 : og ≤ 20000 := by omega
          have g1' : decide (og < 1) = false := by simpa using g1
          have g2' : decide (oa < V + 2 + (S0.size : Int)) = false := by simpa using g2
          have j1 : IntKind.i64.wrap (V + 2) = V + 2 := IntWalk.i64_in _ (by omega)
          have j2 : IntKind.i64.wrap (V + 2 + (S0.size : Int)) = V + 2 + (S0.size : Int) := IntWalk.i64_in _ (by omega)
          have j3 : IntKind.i64.wrap (oa + og) = oa + og := IntWalk.i64_in _ (by omega)
          have j4 : IntKind.i64.wrap (oa + og - 1) = oa + og - 1 := IntWalk.i64_in _ (by omega)
          obtain ⟨_, r0, r1, r2⟩ := unhide HO3
          clear f3 f4 f5 f5b f5c
          go_upto_region 7 with (go_at_call 13; refine (num14_any _ _).mono ?_; rintro e w' ⟨rfl, rfl⟩)
          clear r0 r1 r2
          have u0 : ∀ v : Later w3, v.val.cell? ⟨O, 0, none⟩ = some (.int .i64 oe) := Later.cell (unhide HO3).1 (unhide HO3).2.1
          have u1 : ∀ v : Later w3, v.val.cell? ⟨O, 1, none⟩ = some (.int .i64 oa) := Later.cell (unhide HO3).1 (unhide HO3).2.2.1
          have u2 : ∀ v : Later w3, v.val.cell? ⟨O, 2, none⟩ = some (.int .i64 og) := Later.cell (unhide HO3).1 (unhide HO3).2.2.2
          have p0 : ∀ v : Later w3, v.val.cell? ⟨w.heap.size, 0, none⟩ = some (.int .i64 t) := Later.cell (unhide HP3).1 (unhide HP3).2.1
          have p1 : ∀ v : Later w3, v.val.cell? ⟨w.heap.size, 1, none⟩ = some (.int .i64 sp) := Later.cell (unhide HP3).1 (unhide HP3).2.2.1
          have p2 : ∀ v : Later w3, v.val.cell? ⟨w.heap.size, 2, none⟩ = some (.slice (some ⟨b0, o0, none⟩) len cap) := Later.cell (unhide HP3).1 (unhide HP3).2.2.2
          have p3 : ∀ v : Later w3, v.val.cell? ⟨b0, o0, none⟩ = some (.string S0) := Later.cell (unhide HC3).2 (unhide HC3).1
          refine wp_region_later w3 (by kernel_rfl) (by kernel_rfl) (by repeat (first | exact Below.refl _ _ | assumption | refine Below.alloc ?_ (by first | (simp; done) | (simp; omega) | omega) _ | refine Below.setCell ?_ (by first | (simp; done) | (simp; omega) | omega) _ | apply Below.drew | refine Below.trans ?_ (Below.mono (by assumption) (by first | (simp; done) | (simp; omega) | omega)))) ?_; (repeat (first | go_big_quiet_skip | (go_big_quiet_want; (first | ((fail); go_big_quiet_on; simp only [Act.put, List.setIfInBounds_toArray, List.set_cons_zero, List.set_cons_succ]) | (go_big_quiet_op; (first | go_big_quiet_on | go_big_quiet_call ((first | (go_at_call 53; with_reducible exact later_call (unhide CSa _)) | (go_at_call 53; with_reducible exact later_call (unhide CSb _)))))))))); refine wpQuiet_nil ?_
          intro w4 hw4
          have HB4 := hide ((unhide HB3).trans (hw4.mono (unhide HB3).size))
          have HO4 := hide ((unhide HO3).keep hw4)
          clear u0 u1 u2 p0 p1 p2 p3 hw4 HB3 HO3 HP3 HC3 CSa CSb j1 j2 j4 g2 g1' g2'
          go_wp2
          obtain ⟨wo, hwo⟩ : ∃ wo, wo = wr := ⟨_, rfl⟩
          subst hwo
          go_loopw [9] (fun j wr => ∃ i : Nat, i ≤ k ∧ j = .int .i64 i ∧ Hid (Below w1.heap.size w1 wr) ∧ Hid (Cl3 wr O oe oa og)) (fun j _ => k - (intOf j).toNat)
          case atStart => exact ⟨0, by omega, rfl, HB4, HO4⟩
          case round =>
            obtain ⟨i, hi, rfl, HBi, HOi⟩ := hrel
            clear HB4 HO4
            by_cases hik : i < k
            · obtain ⟨⟨B', eB, hBl', hBc'⟩, hI', hok'⟩ := (unhide HMr1).keep (unhide HBi) i (by omega)
              obtain rfl : B = B' := by
                injection eB with eB
                injection eB with eB _ _
              have HI' := hide hI'
              have HOK' := hide hok'
              have c0 : (0 : Int) ≤ (i : Int) := by omega
              have c1 : (i : Int) < (L : Int) := by omega
              have c2 : (i : Int) < (k : Int) := by omega
              have HFi := hide ((unhide HFF).1 i (by omega))
              have HFd' : Hid (Mk.pl = 4 → Mk.oe = 0 → (Ms i).pl = 4 → (Ms i).oe = 0 → ¬ (Mk.oa < (Ms i).oa + (Ms i).og ∧ (Ms i).oa < Mk.oa + Mk.og)) := hide (by rw [← unhide HMk]; exact unhide HFd i hlt hik)
              generalize Ms i = Mi at HI' HOK' HFi HFd'
              clear hI' hok' eB
              go_wp2_with fail
              refine (outM_any (qs i) Mi (ms i) _ (unhide HI') (unhide HOK')).mono ?_
              rintro en w5 ⟨rfl, hw5⟩
              have HB5 := hide ((unhide HBi).trans (hw5.mono (unhide HBi).size))
              have HO5 := hide ((unhide HOi).keep hw5)
              have hBa : Below w5.heap.size w5 (w5.alloc (.cells #[.int .i64 Mi.oe, .int .i64 Mi.oa, .int .i64 Mi.og] 38)) := (Below.refl _ _).alloc (Nat.le_refl _) _
              have HQ6 := hide (Cl3.new w5 38 Mi.oe Mi.oa Mi.og)
              have HB6 := hide ((unhide HB5).trans (hBa.mono (unhide HB5).size))
              have HO6 := hide ((unhide HO5).keep hBa)
              go_upto_region 13 with fail
              generalize w5.heap.size = O2 at *
              generalize w5.alloc (.cells #[.int .i64 Mi.oe, .int .i64 Mi.oa, .int .i64 Mi.og] 38) = w6 at *
              clear hBc' hBl' hw5 HBi HOi hBa HB5 HO5 HI' HOK'
              by_cases h4i : Mi.pl = 4
              · have e4 : (Mi.pl - 1 == 3) = true := by rw [h4i]; rfl
                rw [e4]
                obtain ⟨_, q0, q1, q2⟩ := unhide HQ6
                by_cases hei : Mi.oe = 0
                · obtain ⟨k1, k2, d2, kd, k3, k4⟩ := unhide HFi h4i hei
                  have k5 : V + (d2 + 1) * sp ≤ 20000 := by rcases kd with e | e <;> subst e <;> omega
                  have hno := unhide HFd' h4 (by rw [(unhide HE).1]; exact he) h4i hei
                  rw [(unhide HE).2.1, (unhide HE).2.2] at hno
                  obtain ⟨_, r0, r1, r2⟩ := unhide HO6
                  have he1 : (Mi.oe == 0) = true := by simp [hei]
                  obtain ⟨ia, hia⟩ : ∃ x, Mi.oa = x := ⟨_, rfl⟩
                  obtain ⟨ig, hig⟩ : ∃ x, Mi.og = x := ⟨_, rfl⟩
                  rw [hia] at q1 hno k2 k3 k4
                  rw [hig] at q2 hno k1 k4
                  have l1 : 0 ≤ ia := by omega
                  have l2 : ia ≤ 20000 := by omega
                  have l3 : ig ≤ 20000 := by omega
                  have l4 : 1 ≤ ig := by omega
                  clear hia hig k2 k3 k4 k5 kd HFi HFd' h4i e4 hei k1
                  by_cases h1 : oa < ia + ig
                  · have h2 : ¬ ia < oa + og := fun h => hno ⟨h1, h⟩
                    clear hno
                    go_wp2_with (go_at_call 13; refine (num14_any _ _).mono ?_; rintro e w' ⟨rfl, rfl⟩)
                    go_roundw
                    case measure => simp [intOf]; omega
                    case rel => exact ⟨i + 1, by omega, by go_num, HB6, HO6⟩
                  · clear hno
                    go_wp2_with (go_at_call 13; refine (num14_any _ _).mono ?_; rintro e w' ⟨rfl, rfl⟩)
                    go_roundw
                    case measure => simp [intOf]; omega
                    case rel => exact ⟨i + 1, by omega, by go_num, HB6, HO6⟩
                · have he1 : (Mi.oe == 0) = false := by simpa using hei
                  clear HFi HFd' h4i e4 hei
                  go_wp2_with (go_at_call 13; refine (num14_any _ _).mono ?_; rintro e w' ⟨rfl, rfl⟩)
                  go_roundw
                  case measure => simp [intOf]; omega
                  case rel => exact ⟨i + 1, by omega, by go_num, HB6, HO6⟩
              · have e4 : (Mi.pl - 1 == 3) = false := by simp; omega
                rw [e4]
                clear HFi HFd' h4i e4
                go_wp2
                go_roundw
                case measure => simp [intOf]; omega
                case rel => exact ⟨i + 1, by omega, by go_num, HB6, HO6⟩
            · obtain rfl : i = k := by omega
              go_wp2
              go_roundw
              case measure => simp [intOf]; omega
              case rel => exact ⟨i + 1, by omega, by go_num, HBi⟩
        · obtain ⟨_, q0, q1, q2⟩ := unhide HO3
          have he' : (Mk.oe != 0) = true := by simpa using he
          clear HFk HFd HMk h4 he e4
          go_wp2_with (go_at_call 13; refine (num14_any _ _).mono ?_; rintro e w' ⟨rfl, rfl⟩)
          go_roundw
          case measure => simp [intOf]; omega
          case rel => exact ⟨k + 1, by omega, by go_num, HB3⟩
      · have e4 : (Mk.pl - 1 == 3) = false := by simp; omega
        rw [e4]
        clear HFk HFd HMk h4 e4
        go_wp2
        go_roundw
        case measure => simp [intOf]; omega
        case rel => exact ⟨k + 1, by omega, by go_num, HB3⟩
    · go_wp2
      go_ret
      exact ⟨rfl, (unhide HB1).trans ((unhide HB).mono (unhide HB1).size)⟩
end Go.Proofs.Ytnnllhlcpmmcaaa
