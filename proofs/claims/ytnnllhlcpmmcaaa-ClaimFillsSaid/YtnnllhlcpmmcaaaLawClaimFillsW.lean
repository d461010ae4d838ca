/- The walk of ClaimFills: it returns true. -/
import Derived.Test.YtnnllhlcpmmcaaaClU
import Derived.Test.YtnnllhlcpmmcaaaArH
import Derived.Deep.DeepCutAuto
namespace Go.Proofs.Ytnnllhlcpmmcaaa
set_option linter.unusedVariables false
set_option linter.unusedSimpArgs false
open Go.RowKit

theorem far_of {w : World} {t sp s n mo : Int} {A : Option Addr} {len cap : Nat} {S : Nat → ByteArray} (H : ShOk w A len S) (hl : 0 < len) : ∀ m, w.heap.size ≤ m → Ask.far ⟨t, sp, A, len, cap, s, n, mo⟩ m := fun m hm b o e => by
  obtain ⟨b', o', e', hlt, _⟩ := H hl
  have e4 : A = some ⟨b, o, none⟩ := e
  rw [e'] at e4
  injection e4 with e4
  injection e4 with e4 _ _
  omega

/-- What holds ahead of each claim. -/
def FillR (t sp s n : Int) (N g h : Nat) (w wr : World) (nx lf : Int) : Prop :=
  ∃ (l o : Int) (xs : Nat → Int), xs 1 = frontW 0 l sp o ∧ rightB 0 l sp o = true ∧ All64 N xs ∧ nx = bas t sp s + (if s = 0 then l else o) ∧ lf = sp - l - o ∧ IsAr wr g h N xs ∧ Below w.heap.size w wr

theorem fill_step {t sp s n : Int} {N g h : Nat} {w W : World} {nx lf l o : Int} {xs : Nat → Int} (hr : rightB 0 l sp o = true) (h64 : All64 N xs) (hnx : nx = bas t sp s + (if s = 0 then l else o)) (hlf : lf = sp - l - o) (hle : n ≤ lf) (hn : 1 ≤ n)
    (K : IsAr W g h N (upd xs 1 (if s = 0 then frontW 0 (l + n) sp o else frontW 0 l sp (o + n)))) (B : Below w.heap.size w W) : FillR t sp s n N g h w W (nx + n) (lf - n) := by
  have hb := rightB_iff.1 hr
  by_cases e : s = 0
  · rw [if_pos e] at K hnx
    exact ⟨l + n, o, _, by unfold upd; rw [if_pos rfl], rightB_iff.2 (by omega), all64_upd h64 1 (frontW_64 ..), by rw [if_pos e]; omega, by omega, K, B⟩
  · rw [if_neg e] at K hnx
    exact ⟨l, o + n, _, by unfold upd; rw [if_pos rfl], rightB_iff.2 (by omega), all64_upd h64 1 (frontW_64 ..), by rw [if_neg e]; omega, by omega, K, B⟩

set_option maxRecDepth 100000 in
set_option maxHeartbeats 8000000 in
theorem claimFills_walk (t : Int) (_ : (Lit.int .i64 t).wf = true) (sp : Int) (_ : (Lit.int .i64 sp).wf = true) (A : Option Addr) (len cap : Nat) (s : Int) (_ : (Lit.int .i64 s).wf = true) (n : Int) (_ : (Lit.int .i64 n).wf = true) (w : World) (hr : RowOk w 5 [.str] A len cap) :
    Calls Try.prog 5 #[.agg #[.int .i64 t, .int .i64 sp, .slice A len cap], .int .i64 s, .int .i64 n] w fun e w' => e = .returned (.bool true) ∧ Below w.heap.size w w' := by
  have hm := hr.1
  have hm2 := hr.2.1
  unfold maxLen at hm2
  obtain ⟨S, H, hS⟩ := ShOk.of_row hr
  have hSm : ∀ i, i < len → (S i).size ≤ 9223372036854775807 := fun i hi => by have := hS i hi; unfold maxLen at this; exact this
  have cf := hide (fun W (hW : Below w.heap.size w W) => few14_any t sp A len cap S (by omega) W (H.keep hW) hS)
  have CR := hide (fun W (hW : Below w.heap.size w W) => right06_any t sp A len cap S (by omega) hSm W (H.keep hW))
  clear hr
  cases ef : fewB len S with
  | false =>
    rw [ef] at cf
    clear ef H hS hSm CR
    go_enter Try.func5, Try.ntmps5
    go_wp2_with fail
    refine (unhide cf _ (by repeat (first | exact Below.refl _ _ | assumption | refine Below.alloc ?_ (by first | (simp; done) | (simp; omega) | omega) _ | refine Below.setCell ?_ (by first | (simp; done) | (simp; omega) | omega) _ | apply Below.drew | refine Below.trans ?_ (Below.mono (by assumption) (by first | (simp; done) | (simp; omega) | omega))))).mono ?_
    rintro en w1 ⟨rfl, h1⟩
    have B1 : Below w.heap.size w w1 := by repeat (first | exact Below.refl _ _ | assumption | refine Below.alloc ?_ (by first | (simp; done) | (simp; omega) | omega) _ | refine Below.setCell ?_ (by first | (simp; done) | (simp; omega) | omega) _ | apply Below.drew | refine Below.trans ?_ (Below.mono (by assumption) (by first | (simp; done) | (simp; omega) | omega)))
    go_wp2_with fail
    refine (works14_any _).mono ?_
    rintro en w2 ⟨rfl, h2⟩
    have B2 := B1.trans (h2.mono B1.size)
    go_wp2
    go_ret
    exact ⟨rfl, B2⟩
  | true =>
    rw [ef] at cf
    cases er : okPB t sp len S with
    | false =>
      rw [er] at CR
      clear ef er H hS hSm
      go_enter Try.func5, Try.ntmps5
      go_wp2_with fail
      refine (unhide cf _ (by repeat (first | exact Below.refl _ _ | assumption | refine Below.alloc ?_ (by first | (simp; done) | (simp; omega) | omega) _ | refine Below.setCell ?_ (by first | (simp; done) | (simp; omega) | omega) _ | apply Below.drew | refine Below.trans ?_ (Below.mono (by assumption) (by first | (simp; done) | (simp; omega) | omega))))).mono ?_
      rintro e w1 ⟨rfl, hw1⟩; obtain ⟨hcw1, hfw1⟩ := bcell hw1; (try (simp only [World.size_drew, World.cell?_drew, World.frozen?_drew] at hcw1 hfw1)); have hzw1 := hw1.size; (try (simp only [World.size_alloc, World.size_setCell, World.size_drew] at hzw1)); (try (have hzw1_w_0 : w.heap.size < w1.heap.size := by omega)); (try (have hzw1_w_1 : w.heap.size + 1 < w1.heap.size := by omega)); (try (have hzw1_w_2 : w.heap.size + 1 + 1 < w1.heap.size := by omega)); (try (have hzw1_w_3 : w.heap.size + 1 + 1 + 1 < w1.heap.size := by omega)); (try (have hyw1_w : w.heap.size ≤ w1.heap.size := by omega)); (try (have hyw1_wa : w.heap.size + 1 ≤ w1.heap.size := by omega))
      have B1 : Below w.heap.size w w1 := by repeat (first | exact Below.refl _ _ | assumption | refine Below.alloc ?_ (by first | (simp; done) | (simp; omega) | omega) _ | refine Below.setCell ?_ (by first | (simp; done) | (simp; omega) | omega) _ | apply Below.drew | refine Below.trans ?_ (Below.mono (by assumption) (by first | (simp; done) | (simp; omega) | omega)))
      go_wp2_with fail
      refine (unhide CR _ B1).mono ?_
      rintro en w2 ⟨rfl, h2⟩
      have B2 := B1.trans (h2.mono B1.size)
      go_wp2_with fail
      refine (works14_any _).mono ?_
      rintro en w3 ⟨rfl, h3⟩
      have B3 := B2.trans (h3.mono B2.size)
      go_wp2
      go_ret
      exact ⟨rfl, B3⟩
    | true =>
      rw [er] at CR
      by_cases hall : sp ≤ 100 ∧ 0 ≤ s ∧ s ≤ 1 ∧ 1 ≤ n ∧ n ≤ sp
      · obtain ⟨s1, s2, s3, s4, s5⟩ := hall
        obtain ⟨ht, hsp, hT⟩ := okPB_iff.1 er
        have hlen1 : 0 < len := by have := hT.1; omega
        have hs8 : (S 0).size ≤ 8 := (hT.2.2 0 (by omega)).1
        have hs01 : s = 0 ∨ s = 1 := by omega
        have hb0 : basE t sp s len S = 0 := by unfold basE; rw [if_pos er, if_pos hs01]
        have hN4 : asN n 0 = true := by unfold asN; simp; omega
        obtain ⟨N, hN⟩ : ∃ N : Nat, (N : Int) = 3 + 2 * t + 2 * sp := ⟨(3 + 2 * t + 2 * sp).toNat, by omega⟩
        have hNb : 69 ≤ N ∧ N ≤ 300 := by omega
        obtain ⟨b0, o0, rfl, hbb0, hc0⟩ := H (by omega)
        have cs := hc0 0 (by omega)
        simp only [Nat.add_zero] at cs
        have CN := hide (fun W (hW : Below w.heap.size w W) => newM_ok t sp _ len cap S (by omega) hSm s n 0 W (H.keep hW) hb0 hN4)
        have CS := hide (fun W (hW : Below w.heap.size w W) => start_any t sp _ len cap S N ⟨ht, hsp, hT⟩ hN W (H.keep hW))
        have CB := hide (fun W => refBase_any t sp s (.slice (some ⟨b0, o0, none⟩) len cap) ht hsp hs01 ⟨_, _, _, rfl⟩ W)
        have CA := hide (fun (g h m : Nat) (xs : Nat → Int) W (hW : Below w.heap.size w W) (hI : IsM W m (newMc.c ⟨t, sp, some ⟨b0, o0, none⟩, len, cap, s, n, 0⟩)) (hK : IsAr W g h N xs) (h64 : All64 N xs) (hm : w.heap.size ≤ m) (hh : w.heap.size ≤ h) (hmg : m ≠ g) (hmh : m ≠ h) => alone_any ⟨t, sp, some ⟨b0, o0, none⟩, len, cap, s, n, 0⟩ S (show len ≤ 9223372036854775807 by omega) hSm g h N m xs W ⟨H.keep hW, er, hs01, hN4⟩ (far_of H hlen1 m hm) (far_of H hlen1 h hh) hI hK hmg hmh h64)
        have hV : 0 ≤ bas t sp s ∧ bas t sp s ≤ 200 := by unfold bas; rcases hs01 with e | e <;> rw [e] <;> omega
        obtain ⟨NX, hNX⟩ : ∃ NX, NX = bas t sp s + (if s = 0 then 2 + ((S 0).size : Int) else 0) := ⟨_, rfl⟩
        have hNXb : 0 ≤ NX ∧ NX ≤ 300 := by rw [hNX]; split <;> omega
        have hr0 : rightB 0 (2 + ((S 0).size : Nat)) sp 0 = true := rightB_iff.2 (by omega)
        have EF : Hid (∀ (xs : Nat → Int) (l o : Int), xs 1 = frontW 0 l sp o → rightB 0 l sp o = true → n ≤ sp - l - o →
            aloneF ⟨t, sp, some ⟨b0, o0, none⟩, len, cap, s, n, 0⟩ N 60 newMc xs 0 0 = ⟨0, bas t sp s + (if s = 0 then l else o), n, 2, ⟨4, 0, xs 1, bas t sp s + (if s = 0 then l else o), n, 0, bas t sp s + (if s = 0 then l else o), n⟩, upd xs 1 (if s = 0 then frontW 0 (l + n) sp o else frontW 0 l sp (o + n))⟩) :=
          hide (fun xs l o hx hr hf => alone_fit ⟨t, sp, some ⟨b0, o0, none⟩, len, cap, s, n, 0⟩ N (by omega) xs 0 l sp o n hx hr (Int.le_refl _) hs01 (by show lkN s n 0 0 l sp o = n; unfold lkN; rw [if_neg (fun h => h.1 rfl)]) ⟨s4, hf⟩)
        have EU : Hid (∀ (xs : Nat → Int) (l o : Int), xs 1 = frontW 0 l sp o → rightB 0 l sp o = true → sp - l - o < n → aloneF ⟨t, sp, some ⟨b0, o0, none⟩, len, cap, s, n, 0⟩ N 60 newMc xs 0 0 = ⟨184, 0, 0, 1, ⟨4, 0, 0, 0, 0, 184, 0, 0⟩, xs⟩) :=
          hide (fun xs l o hx hr hf => alone_unfit ⟨t, sp, some ⟨b0, o0, none⟩, len, cap, s, n, 0⟩ N (by omega) xs 0 l sp o n hx hr (Int.le_refl _) hs01 (by show lkN s n 0 0 l sp o = n; unfold lkN; rw [if_neg (fun h => h.1 rfl)]) s4 hf)
        have HNX := hide hNX
        have HV := hide hV
        have HR0 := hide hr0
        have HS1 := hide hs01
        have g1 : ¬ 100 < sp := by omega
        have g2 : ¬ s < 0 := by omega
        have g3 : ¬ 1 < s := by omega
        have g4 : ¬ n < 1 := by omega
        have g5 : ¬ sp < n := by omega
        have hln : (0 : Int) < (len : Int) := by omega
        have hsp1 : 32 ≤ sp := hsp.1
        generalize S 0 = S0 at *
        clear ef er H hS hSm hN4 hb0 hc0 hT ht hsp hNX hr0 hs01 hN
        go_enter Try.func5, Try.ntmps5
        go_wp2_with fail
        refine (unhide cf _ (by repeat (first | exact Below.refl _ _ | assumption | refine Below.alloc ?_ (by first | (simp; done) | (simp; omega) | omega) _ | refine Below.setCell ?_ (by first | (simp; done) | (simp; omega) | omega) _ | apply Below.drew | refine Below.trans ?_ (Below.mono (by assumption) (by first | (simp; done) | (simp; omega) | omega))))).mono ?_
        rintro e w1 ⟨rfl, hw1⟩; obtain ⟨hcw1, hfw1⟩ := bcell hw1; (try (simp only [World.size_drew, World.cell?_drew, World.frozen?_drew] at hcw1 hfw1)); have hzw1 := hw1.size; (try (simp only [World.size_alloc, World.size_setCell, World.size_drew] at hzw1)); (try (have hzw1_w_0 : w.heap.size < w1.heap.size := by omega)); (try (have hzw1_w_1 : w.heap.size + 1 < w1.heap.size := by omega)); (try (have hzw1_w_2 : w.heap.size + 1 + 1 < w1.heap.size := by omega)); (try (have hzw1_w_3 : w.heap.size + 1 + 1 + 1 < w1.heap.size := by omega)); (try (have hyw1_w : w.heap.size ≤ w1.heap.size := by omega)); (try (have hyw1_wa : w.heap.size + 1 ≤ w1.heap.size := by omega))
        have B1 : Below w.heap.size w w1 := by repeat (first | exact Below.refl _ _ | assumption | refine Below.alloc ?_ (by first | (simp; done) | (simp; omega) | omega) _ | refine Below.setCell ?_ (by first | (simp; done) | (simp; omega) | omega) _ | apply Below.drew | refine Below.trans ?_ (Below.mono (by assumption) (by first | (simp; done) | (simp; omega) | omega)))
        go_wp2_with fail
        refine (unhide CR _ B1).mono ?_
        rintro e w2 ⟨rfl, hw2⟩; obtain ⟨hcw2, hfw2⟩ := bcell hw2; (try (simp only [World.size_drew, World.cell?_drew, World.frozen?_drew] at hcw2 hfw2)); have hzw2 := hw2.size; (try (simp only [World.size_alloc, World.size_setCell, World.size_drew] at hzw2)); (try (have hzw2_w_0 : w.heap.size < w2.heap.size := by omega)); (try (have hzw2_w_1 : w.heap.size + 1 < w2.heap.size := by omega)); (try (have hzw2_w_2 : w.heap.size + 1 + 1 < w2.heap.size := by omega)); (try (have hzw2_w_3 : w.heap.size + 1 + 1 + 1 < w2.heap.size := by omega)); (try (have hyw2_w : w.heap.size ≤ w2.heap.size := by omega)); (try (have hyw2_wa : w.heap.size + 1 ≤ w2.heap.size := by omega)); (try (have hzw2_w1_0 : w1.heap.size < w2.heap.size := by omega)); (try (have hzw2_w1_1 : w1.heap.size + 1 < w2.heap.size := by omega)); (try (have hzw2_w1_2 : w1.heap.size + 1 + 1 < w2.heap.size := by omega)); (try (have hzw2_w1_3 : w1.heap.size + 1 + 1 + 1 < w2.heap.size := by omega)); (try (have hyw2_w1 : w1.heap.size ≤ w2.heap.size := by omega)); (try (have hyw2_w1a : w1.heap.size + 1 ≤ w2.heap.size := by omega))
        have B2 := B1.trans (hw2.mono B1.size)
        have HP2 : Hid (BoxP w2 w.heap.size t sp (some ⟨b0, o0, none⟩) len cap) := hide ⟨by omega, by go_simp, by go_simp, by go_simp⟩
        go_wp2_with fail
        refine (unhide CS _ B2).mono ?_
        rintro en w3 ⟨bb, xs, hbb, rfl, hW3, h64, hF, hB3⟩
        have HW3 := hide hW3
        have H64 := hide h64
        have HF := hide hF
        have HP3 := hide ((unhide HP2).keep hB3)
        have B3 := B2.trans (hB3.mono B2.size)
        have hz2 := B2.size
        have hz3 := hB3.size
        clear hW3 h64 hF hB3 hcw1 hfw1 hw1 hcw2 hfw2 hw2 HP2 cf CR CS B1 B2
        go_wp2_with fail
        refine (of_yes bb 0 N N xs (by omega) (by omega) _ (unhide HW3).1 (fun i hi => by rw [Nat.zero_add]; exact ((unhide HW3).2 i hi).1)).mono ?_
        rintro en w4 ⟨g, h, rfl, hb4, hg4, hh4, hA4⟩
        have HA4 := hide hA4
        have HP4 := hide ((unhide HP3).keep hb4)
        have B4 := B3.trans (hb4.mono B3.size)
        have hz4 := hb4.size
        have hgw : w.heap.size ≤ g := by omega
        have hhw : w.heap.size ≤ h := by omega
        have hc4 : w4.cell? ⟨b0, o0, none⟩ = some (.string S0) := (B4.cell (p := ⟨b0, o0, none⟩) hbb0).trans cs
        have hb04 : b0 < w4.heap.size := by omega
        clear hb4 hA4 HW3 HP3 B3
        go_wp2_with (go_at_call 13; refine (num14_any _ _).mono ?_; rintro e w' ⟨rfl, rfl⟩)
        have u1 : ∀ v : Later w4, v.val.cell? ⟨w.heap.size, 1, none⟩ = some (.int .i64 sp) := Later.cell (unhide HP4).1 (unhide HP4).2.2.1
        have u2 : ∀ v : Later w4, v.val.cell? ⟨w.heap.size, 2, none⟩ = some (.slice (some ⟨b0, o0, none⟩) len cap) := Later.cell (unhide HP4).1 (unhide HP4).2.2.2
        have u3 : ∀ v : Later w4, v.val.cell? ⟨b0, o0, none⟩ = some (.string S0) := Later.cell hb04 hc4
        have j1 : IntKind.i64.wrap (sp - 2) = sp - 2 := IntWalk.i64_in _ (by omega)
        have j2 : IntKind.i64.wrap (sp - 2 - (S0.size : Int)) = sp - 2 - (S0.size : Int) := IntWalk.i64_in _ (by omega)
        have BL4 := B4
        go_upto_region 6 with fail
        refine wp_region_later w4 (by kernel_rfl) (by kernel_rfl) (by repeat (first | exact Below.refl _ _ | assumption | refine Below.alloc ?_ (by first | (simp; done) | (simp; omega) | omega) _ | refine Below.setCell ?_ (by first | (simp; done) | (simp; omega) | omega) _ | apply Below.drew | refine Below.trans ?_ (Below.mono (by assumption) (by first | (simp; done) | (simp; omega) | omega)))) ?_; (repeat (first | go_big_quiet_skip | (go_big_quiet_want; (first | ((fail); go_big_quiet_on; simp only [Act.put, List.setIfInBounds_toArray, List.set_cons_zero, List.set_cons_succ]) | (go_big_quiet_op; (first | go_big_quiet_on | go_big_quiet_call ((fail)))))))); refine wpQuiet_nil ?_
        intro w5 hw5
        have HA5 := hide ((unhide HA4).keep hw5)
        have HP5 := hide ((unhide HP4).keep hw5)
        have B5 := B4.trans (hw5.mono B4.size)
        have hc5 := (hw5.cell (p := ⟨b0, o0, none⟩) hb04).trans hc4
        have hz5 := hw5.size
        have hb05 : b0 < w5.heap.size := by omega
        clear u1 u2 u3 j1 j2 HA4 HP4 B4 BL4 hc4 hb04 hw5
        obtain ⟨_, p0, p1, p2⟩ := unhide HP5
        go_wp2_with fail
        refine (unhide CB _).mono ?_
        rintro en w6 ⟨rfl, hw6⟩
        have HA6 := hide ((unhide HA5).keep hw6)
        have HP6 := hide ((unhide HP5).keep hw6)
        have B6 := B5.trans (hw6.mono B5.size)
        have hc6 := (hw6.cell (p := ⟨b0, o0, none⟩) hb05).trans hc5
        have hb06 : b0 < w6.heap.size := by have := hw6.size; omega
        clear p0 p1 p2 HA5 HP5 B5 hc5 hw6
        obtain ⟨_, p0, p1, p2⟩ := unhide HP6
        go_upto_if 73 with fail
        go_cut [10] (fun s10 wx => s10 = .int .i64 NX ∧ w6 = wx)
        case first =>
          obtain ⟨v1, v2⟩ := unhide HV
          by_cases e0 : s = 0
          · have hse : (s == 0) = true := by simpa using e0
            have E1 := hide (show bas t sp s + 2 + (S0.size : Int) = NX by rw [unhide HNX, if_pos e0]; omega)
            clear e0
            go_wp2
            go_meet
            exact ⟨by rw [unhide E1], rfl⟩
          · have hse : (s == 0) = false := by simpa using e0
            have E1 := hide (show bas t sp s = NX by rw [unhide HNX, if_neg e0]; omega)
            clear e0
            go_wp2
            go_meet
            exact ⟨by rw [unhide E1], rfl⟩
        case rest =>
          obtain ⟨rfl, rfl⟩ := hcut
          have HL : Hid (FillR t sp s n N g h w w6 NX (sp - 2 - (S0.size : Int))) := hide ⟨2 + (S0.size : Nat), 0, xs, unhide HF, unhide HR0, unhide H64, unhide HNX, by omega, unhide HA6, B6⟩
          obtain ⟨n1, n2⟩ := hNXb
          clear HF HR0 H64 HNX HA6 B6 p0 p1 p2 hc6 hb06 HV
          go_wp2
          go_loopw [9, 10] (fun lf nx wr => ∃ a b : Int, lf = .int .i64 a ∧ nx = .int .i64 b ∧ 0 ≤ a ∧ a ≤ 100 ∧ 0 ≤ b ∧ b ≤ 300 + (100 - a) ∧ Hid (FillR t sp s n N g h w wr b a) ∧ Hid (BoxP wr w.heap.size t sp (some ⟨b0, o0, none⟩) len cap)) (fun lf _ _ => (intOf lf).toNat)
          case atStart => exact ⟨_, _, rfl, rfl, by omega, by omega, n1, by omega, HL, HP6⟩
          case round =>
            obtain ⟨a, b, rfl, rfl, ha0, ha1, hbb1, hbb2, HFR, HPr⟩ := hrel
            obtain ⟨l, o, ys, hx, hr, h64, hnx, hlf, hK, hB⟩ := unhide HFR
            have HB := hide hB
            have HK := hide hK
            have H64 := hide h64
            have hgr := hK.2.1
            have hhr := hK.2.2.1
            have hzr := hB.size
            have hpr := (unhide HPr).1
            clear HL HP6
            by_cases hle : n ≤ a
            · have E0 := unhide EF ys l o hx hr (by omega)
              rw [← hnx] at E0
              have E := hide E0
              have HS := hide (fun W K B => fill_step (t := t) (sp := sp) (s := s) (n := n) (N := N) (g := g) (h := h) (w := w) (W := W) hr h64 hnx hlf hle s4 K B)
              generalize (if s = 0 then frontW 0 (l + n) sp o else frontW 0 l sp (o + n)) = F2 at E HS
              clear hx hr h64 hnx hlf hK hB HFR E0
              obtain ⟨_, p0, p1, p2⟩ := unhide HPr
              go_wp2_with fail
              refine (unhide CN wr (unhide HB)).mono ?_
              rintro en w7 ⟨m, hwm, rfl, hI, hw7⟩
              have HI7 := hide hI
              have HK7 := hide ((unhide HK).keep hw7)
              have HP7 := hide ((unhide HPr).keep hw7)
              have HB7 := hide ((unhide HB).trans (hw7.mono (unhide HB).size))
              have hz7 := hw7.size
              clear hI hw7 HK HPr HB p0 p1 p2
              go_wp2_with fail
              refine (unhide CA g h m ys w7 (unhide HB7) (unhide HI7) (unhide HK7) (unhide H64) (by omega) hhw (by omega) (by omega)).mono ?_
              rintro en w8 hal
              unfold AlEnd at hal
              rw [unhide E] at hal
              obtain ⟨rfl, hc, hi, ha⟩ := hal
              have HP8 := hide ((unhide HP7).chg hc (fun e => e.elim (by omega) (by omega)))
              have HB8 := hide ((unhide HB7).trans (hc.below (n := w.heap.size) (fun i e => e.elim (by omega) (by omega)) (unhide HB7).size))
              have HK8 := hide ha
              have hBa : Below w8.heap.size w8 (w8.alloc (.cells #[.int .i64 0, .int .i64 b, .int .i64 n] 38)) := (Below.refl _ _).alloc (Nat.le_refl _) _
              have HP9 := hide ((unhide HP8).keep hBa)
              have HF9 := hide (unhide HS _ ((unhide HK8).keep hBa) ((unhide HB8).trans (hBa.mono (unhide HB8).size)))
              clear hc hi ha hBa HP7 HB7 HI7 HK7 H64 E HS HP8 HB8 HK8
              go_wp2_with (go_at_call 13; refine (num14_any _ _).mono ?_; rintro e w' ⟨rfl, rfl⟩)
              go_roundw
              case measure => simp [intOf]; omega
              case rel => exact ⟨_, _, rfl, rfl, by omega, by omega, by omega, by omega, HF9, HP9⟩
            · have E := hide (unhide EU ys l o hx hr (by omega))
              have hle' : ¬ n ≤ a := hle
              clear hx hr h64 hnx hlf hK hB HFR
              obtain ⟨_, p0, p1, p2⟩ := unhide HPr
              go_wp2_with fail
              refine (unhide CN wr (unhide HB)).mono ?_
              rintro en w7 ⟨m, hwm, rfl, hI, hw7⟩
              have HI7 := hide hI
              have HK7 := hide ((unhide HK).keep hw7)
              have HB7 := hide ((unhide HB).trans (hw7.mono (unhide HB).size))
              have hz7 := hw7.size
              clear hI hw7 HK HPr HB p0 p1 p2
              go_wp2_with fail
              refine (unhide CA g h m ys w7 (unhide HB7) (unhide HI7) (unhide HK7) (unhide H64) (by omega) hhw (by omega) (by omega)).mono ?_
              rintro en w8 hal
              unfold AlEnd at hal
              rw [unhide E] at hal
              obtain ⟨rfl, hc, hi, ha⟩ := hal
              have B8 := (unhide HB7).trans (hc.below (n := w.heap.size) (fun i e => e.elim (by omega) (by omega)) (unhide HB7).size)
              clear hc hi ha HB7 HI7 HK7 H64 E
              go_wp2_with fail
              refine (works14_any _).mono ?_
              rintro en w9 ⟨rfl, hw9⟩
              have B9 : Below w.heap.size w w9 := by
                refine Below.trans ?_ (hw9.mono (by have := B8.size; simp; omega))
                exact B8.alloc B8.size _
              go_wp2
              go_ret
              exact ⟨rfl, B9⟩
      · have hw : 100 < sp ∨ (¬ 100 < sp ∧ s < 0) ∨ (¬ 100 < sp ∧ ¬ s < 0 ∧ 1 < s) ∨ (¬ 100 < sp ∧ ¬ s < 0 ∧ ¬ 1 < s ∧ n < 1) ∨ (¬ 100 < sp ∧ ¬ s < 0 ∧ ¬ 1 < s ∧ ¬ n < 1 ∧ sp < n) := by omega
        clear ef er H hS hSm hall
        rcases hw with h1 | ⟨h1, h2⟩ | ⟨h1, h2, h3⟩ | ⟨h1, h2, h3, h4⟩ | ⟨h1, h2, h3, h4, h5⟩
        all_goals
          go_enter Try.func5, Try.ntmps5
          go_wp2_with fail
          refine (unhide cf _ (by repeat (first | exact Below.refl _ _ | assumption | refine Below.alloc ?_ (by first | (simp; done) | (simp; omega) | omega) _ | refine Below.setCell ?_ (by first | (simp; done) | (simp; omega) | omega) _ | apply Below.drew | refine Below.trans ?_ (Below.mono (by assumption) (by first | (simp; done) | (simp; omega) | omega))))).mono ?_
          rintro e w1 ⟨rfl, hw1⟩; obtain ⟨hcw1, hfw1⟩ := bcell hw1; (try (simp only [World.size_drew, World.cell?_drew, World.frozen?_drew] at hcw1 hfw1)); have hzw1 := hw1.size; (try (simp only [World.size_alloc, World.size_setCell, World.size_drew] at hzw1)); (try (have hzw1_w_0 : w.heap.size < w1.heap.size := by omega)); (try (have hzw1_w_1 : w.heap.size + 1 < w1.heap.size := by omega)); (try (have hzw1_w_2 : w.heap.size + 1 + 1 < w1.heap.size := by omega)); (try (have hzw1_w_3 : w.heap.size + 1 + 1 + 1 < w1.heap.size := by omega)); (try (have hyw1_w : w.heap.size ≤ w1.heap.size := by omega)); (try (have hyw1_wa : w.heap.size + 1 ≤ w1.heap.size := by omega))
          have B1 : Below w.heap.size w w1 := by repeat (first | exact Below.refl _ _ | assumption | refine Below.alloc ?_ (by first | (simp; done) | (simp; omega) | omega) _ | refine Below.setCell ?_ (by first | (simp; done) | (simp; omega) | omega) _ | apply Below.drew | refine Below.trans ?_ (Below.mono (by assumption) (by first | (simp; done) | (simp; omega) | omega)))
          go_wp2_with fail
          refine (unhide CR _ B1).mono ?_
          rintro e w2 ⟨rfl, hw2⟩; obtain ⟨hcw2, hfw2⟩ := bcell hw2; (try (simp only [World.size_drew, World.cell?_drew, World.frozen?_drew] at hcw2 hfw2)); have hzw2 := hw2.size; (try (simp only [World.size_alloc, World.size_setCell, World.size_drew] at hzw2)); (try (have hzw2_w_0 : w.heap.size < w2.heap.size := by omega)); (try (have hzw2_w_1 : w.heap.size + 1 < w2.heap.size := by omega)); (try (have hzw2_w_2 : w.heap.size + 1 + 1 < w2.heap.size := by omega)); (try (have hzw2_w_3 : w.heap.size + 1 + 1 + 1 < w2.heap.size := by omega)); (try (have hyw2_w : w.heap.size ≤ w2.heap.size := by omega)); (try (have hyw2_wa : w.heap.size + 1 ≤ w2.heap.size := by omega)); (try (have hzw2_w1_0 : w1.heap.size < w2.heap.size := by omega)); (try (have hzw2_w1_1 : w1.heap.size + 1 < w2.heap.size := by omega)); (try (have hzw2_w1_2 : w1.heap.size + 1 + 1 < w2.heap.size := by omega)); (try (have hzw2_w1_3 : w1.heap.size + 1 + 1 + 1 < w2.heap.size := by omega)); (try (have hyw2_w1 : w1.heap.size ≤ w2.heap.size := by omega)); (try (have hyw2_w1a : w1.heap.size + 1 ≤ w2.heap.size := by omega))
          have B2 := B1.trans (hw2.mono B1.size)
          go_wp2_with fail
          refine (works14_any _).mono ?_
          rintro en w3 ⟨rfl, h3'⟩
          have B3 := B2.trans (h3'.mono B2.size)
          go_wp2
          go_ret
          exact ⟨rfl, B3⟩
end Go.Proofs.Ytnnllhlcpmmcaaa
