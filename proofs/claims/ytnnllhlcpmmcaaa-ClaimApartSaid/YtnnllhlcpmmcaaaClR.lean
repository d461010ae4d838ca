/- Package claim: the chapter's rows. -/
import Derived.Test.YtnnllhlcpmmcaaaClQ
import Derived.Test.YtnnllhlcpmmcaaaArH
namespace Go.Proofs.Ytnnllhlcpmmcaaa
set_option linter.unusedVariables false
set_option linter.unusedSimpArgs false
open Go.RowKit

/-- What came of a claim, in a box. -/
def Cl3 (W : World) (b : Nat) (e a g : Int) : Prop := b < W.heap.size ∧ W.cell? ⟨b, 0, none⟩ = some (.int .i64 e) ∧ W.cell? ⟨b, 1, none⟩ = some (.int .i64 a) ∧ W.cell? ⟨b, 2, none⟩ = some (.int .i64 g)
theorem Cl3.chg {S : Nat → Prop} {w W : World} {b : Nat} {e a g : Int} (H : Cl3 w b e a g) (h : Chg S w W) (hS : ¬ S b) : Cl3 W b e a g :=
  ⟨Nat.lt_of_lt_of_le H.1 h.size, (h.cell H.1 hS).trans H.2.1, (h.cell H.1 hS).trans H.2.2.1, (h.cell H.1 hS).trans H.2.2.2⟩
theorem Cl3.keep {w W : World} {b : Nat} {e a g : Int} (H : Cl3 w b e a g) (h : Below w.heap.size w W) : Cl3 W b e a g := H.chg (S := fun _ => False) (Chg.of h) (fun e => e)
theorem Cl3.new (W : World) (ty : TypeId) (e a g : Int) : Cl3 (W.alloc (.cells #[.int .i64 e, .int .i64 a, .int .i64 g] ty)) W.heap.size e a g := ⟨by simp, by go_simp, by go_simp, by go_simp⟩

/-- An access, in a box. -/
def Ac4 (W : World) (b : Nat) (k a o v : Int) : Prop := b < W.heap.size ∧ W.cell? ⟨b, 0, none⟩ = some (.int .i64 k) ∧ W.cell? ⟨b, 1, none⟩ = some (.int .i64 a) ∧ W.cell? ⟨b, 2, none⟩ = some (.int .u64 o) ∧ W.cell? ⟨b, 3, none⟩ = some (.int .u64 v)
theorem Ac4.chg {S : Nat → Prop} {w W : World} {b : Nat} {k a o v : Int} (H : Ac4 w b k a o v) (h : Chg S w W) (hS : ¬ S b) : Ac4 W b k a o v :=
  ⟨Nat.lt_of_lt_of_le H.1 h.size, (h.cell H.1 hS).trans H.2.1, (h.cell H.1 hS).trans H.2.2.1, (h.cell H.1 hS).trans H.2.2.2.1, (h.cell H.1 hS).trans H.2.2.2.2⟩
theorem Ac4.keep {w W : World} {b : Nat} {k a o v : Int} (H : Ac4 w b k a o v) (h : Below w.heap.size w W) : Ac4 W b k a o v := H.chg (S := fun _ => False) (Chg.of h) (fun e => e)
theorem Ac4.new (W : World) (ty : TypeId) (k a o v : Int) : Ac4 (W.alloc (.cells #[.int .i64 k, .int .i64 a, .int .u64 o, .int .u64 v] ty)) W.heap.size k a o v := ⟨by simp, by go_simp, by go_simp, by go_simp, by go_simp⟩

def Sp : Nat → ByteArray := fun _ => ⟨#[112]⟩
theorem okP14 : okP 1 32 1 Sp := by
  refine ⟨by omega, by omega, by omega, by omega, fun i _ => ⟨show 1 ≤ 8 by decide, fun j hj => ?_⟩⟩
  have : j = 0 := by
    have : j < 1 := hj
    omega
  subst this
  exact .inl rfl
theorem hSp : ∀ i, i < 1 → (Sp i).size ≤ 9223372036854775807 := fun _ _ => show 1 ≤ 9223372036854775807 by decide
theorem okPB14 : okPB 1 32 1 Sp = true := okPB_iff.2 okP14
theorem basE14 : basE 1 32 0 1 Sp = 0 := by unfold basE; rw [if_pos okPB14, if_pos (.inl rfl)]

def q14 (g : Nat) (n mo : Int) : Ask := ⟨1, 32, some ⟨g, 0, none⟩, 1, 1, 0, n, mo⟩
theorem q14_far {g m : Nat} {n mo : Int} (h : g ≠ m) : (q14 g n mo).far m := fun b o e => by
  unfold q14 at e
  injection e with e
  injection e with e _ _
  rw [← e]; exact h

theorem new14 (g : Nat) (n mo : Int) (hn : asN n mo = true) (w : World) (H : ShOk w (some ⟨g, 0, none⟩) 1 Sp) :
    Calls Try.prog 11 #[.agg #[.int .i64 1, .int .i64 32, .slice (some ⟨g, 0, none⟩) 1 1], .int .i64 0, .int .i64 n, .int .i64 mo] w
      fun e w' => ∃ m, w.heap.size ≤ m ∧ e = .returned (.tuple #[.pointer (some ⟨m, 0, none⟩), .int .i64 0]) ∧ IsM w' m (newMc.c (q14 g n mo)) ∧ Below w.heap.size w w' :=
  newM_ok 1 32 _ 1 1 Sp (by omega) hSp 0 n mo w H basE14 hn

theorem right14n : rightB 0 3 32 0 = true := by decide
theorem lk14 (n : Int) : lkN 0 n 0 0 3 32 0 = n := by unfold lkN; rw [if_neg (fun h => h.1 rfl)]
theorem lk14b : lkN 0 4 16 0 3 32 0 = 16 := by unfold lkN; rw [if_pos (by decide)]

theorem al14 (g : Nat) (n mo N : Int) (xs : Nat → Int) (hF : xs 1 = frontW 0 3 32 0) (hN : lkN 0 n mo 0 3 32 0 = N) (hf : 1 ≤ N ∧ N ≤ 29) :
    aloneF (q14 g n mo) 69 60 newMc xs 0 0 = ⟨0, 8, N, 2, ⟨4, 0, xs 1, 8, N, 0, 8, N⟩, upd xs 1 (frontW 0 (3 + N) 32 0)⟩ := by
  rw [alone_fit (q14 g n mo) 69 (by omega) xs 0 3 32 0 N hF right14n (by show (32 : Int) ≤ 32; omega) (.inl rfl) hN (by omega)]
  rfl

theorem all64_w (xs : Nat → Int) (s l h o : Int) {n : Nat} (H : All64 n xs) : All64 n (upd xs 1 (frontW s l h o)) := all64_upd H 1 (frontW_64 ..)

set_option maxRecDepth 100000 in
set_option maxHeartbeats 8000000 in
theorem works14_any (w : World) : Calls Try.prog 10 #[] w fun en w' => en = .returned (.bool true) ∧ Below w.heap.size w w' := by
  go_enter Try.func10, Try.ntmps10
  go_wp2_with fail
  refine (plan14_any _).mono ?_
  rintro en w1 ⟨g1, hg1, rfl, hs1, hb1⟩
  have HS1 := hide hs1
  have hz1 := hb1.size
  clear hs1
  go_wp2_with fail
  refine (start_any 1 32 _ 1 1 Sp 69 okP14 (by decide) _ (unhide HS1)).mono ?_
  rintro en w2 ⟨b2, xs, hb2, rfl, hW2, h64, hF, hB2⟩
  have hz2 := hB2.size
  have H64 := hide h64
  have HF := hide (show xs 1 = frontW 0 3 32 0 from hF)
  have HW2 := hide hW2
  have BL2 : Below w.heap.size w w2 := hb1.trans (hB2.mono (by omega))
  clear h64 hF hW2 hB2 hb1 HS1
  have hbs := (unhide HW2).1
  go_wp2_with fail
  refine (of_yes b2 0 69 69 xs (by omega) (by omega) _ hbs (fun i hi => by rw [Nat.zero_add]; exact ((unhide HW2).2 i hi).1)).mono ?_
  rintro en w3 ⟨g3, h3, rfl, hb3, hg3, hh3, hA3⟩
  have hz3 := hb3.size
  have BL3 := BL2.trans (hb3.mono (by omega))
  have HA3 := hide hA3
  have u3 := hA3.2.1
  have v3 := hA3.2.2.1
  clear hb3 hA3 BL2 HW2 hbs
  go_wp2_with fail
  refine (copy_any g3 h3 69 xs _ (unhide HA3)).mono ?_
  rintro en w4 ⟨g4, h4, rfl, hb4, hg4, hh4, hA4⟩
  have hz4 := hb4.size
  have BL4 := BL3.trans (hb4.mono (by omega))
  have HA4 := hide ((unhide HA3).keep hb4)
  have HC4 := hide hA4
  have u4 := hA4.2.1
  have v4 := hA4.2.2.1
  clear hb4 hA4 BL3 HA3
  go_wp2_with fail
  refine (plan14_any _).mono ?_
  rintro en w5 ⟨g5, hg5, rfl, hs, hb⟩
  have hzw5 := hb.size
  have HSg5 := hide hs
  have HBw5 := hide hb
  clear hs hb
  go_wp2_with fail
  refine (new14 g5 4 0 (by decide) _ (unhide HSg5)).mono ?_
  rintro en w6 ⟨m6, hm6, rfl, hm, hb⟩
  have hzw6 := hb.size
  have hltm6 := hm.1
  have hltSg5 : g5 < w5.heap.size := by
    obtain ⟨b, o, e, hlt, _⟩ := unhide HSg5 (by omega)
    injection e with e
    injection e with e _ _
    omega
  have HMm6 := hide hm
  have HQg5 : Hid ((q14 g5 4 0).ok w6 Sp) := hide ⟨(unhide HSg5).keep hb, okPB14, .inl rfl, show asN 4 0 = true by decide⟩
  have HBw6 := hide ((unhide HBw5).trans (hb.mono (by omega)))
  clear hm hb HBw5 HSg5
  go_wp2_with fail
  refine (plan14_any _).mono ?_
  rintro en w7 ⟨g7, hg7, rfl, hs, hb⟩
  have hzw7 := hb.size
  have HSg7 := hide hs
  have HBw7 := hide hb
  clear hs hb
  go_wp2_with fail
  refine (new14 g7 4 16 (by decide) _ (unhide HSg7)).mono ?_
  rintro en w8 ⟨m8, hm8, rfl, hm, hb⟩
  have hzw8 := hb.size
  have hltm8 := hm.1
  have hltSg7 : g7 < w7.heap.size := by
    obtain ⟨b, o, e, hlt, _⟩ := unhide HSg7 (by omega)
    injection e with e
    injection e with e _ _
    omega
  have HMm8 := hide hm
  have HQg7 : Hid ((q14 g7 4 16).ok w8 Sp) := hide ⟨(unhide HSg7).keep hb, okPB14, .inl rfl, show asN 4 16 = true by decide⟩
  have HBw8 := hide ((unhide HBw7).trans (hb.mono (by omega)))
  clear hm hb HBw7 HSg7
  go_wp2_with fail
  refine (plan14_any _).mono ?_
  rintro en w9 ⟨g9, hg9, rfl, hs, hb⟩
  have hzw9 := hb.size
  have HSg9 := hide hs
  have HBw9 := hide hb
  clear hs hb
  go_wp2_with fail
  refine (new14 g9 30 0 (by decide) _ (unhide HSg9)).mono ?_
  rintro en w10 ⟨m10, hm10, rfl, hm, hb⟩
  have hzw10 := hb.size
  have hltm10 := hm.1
  have hltSg9 : g9 < w9.heap.size := by
    obtain ⟨b, o, e, hlt, _⟩ := unhide HSg9 (by omega)
    injection e with e
    injection e with e _ _
    omega
  have HMm10 := hide hm
  have HQg9 : Hid ((q14 g9 30 0).ok w10 Sp) := hide ⟨(unhide HSg9).keep hb, okPB14, .inl rfl, show asN 30 0 = true by decide⟩
  have HBw10 := hide ((unhide HBw9).trans (hb.mono (by omega)))
  clear hm hb HBw9 HSg9
  have H8 := unhide HBw8
  have H10 := unhide HBw10
  have HAx := hide ((((unhide HA4).keep (unhide HBw6)).keep H8).keep H10)
  have HCx := hide ((((unhide HC4).keep (unhide HBw6)).keep H8).keep H10)
  have HM6 := hide (((unhide HMm6).keep H8).keep H10)
  have HM8 := hide ((unhide HMm8).keep H10)
  have HM10 := HMm10
  have HQ5 := hide (Ask.ok_keep (Ask.ok_keep (unhide HQg5) H8) H10)
  have HQ7 := hide (Ask.ok_keep (unhide HQg7) H10)
  have HQ9 := HQg9
  have BL10 : Below w.heap.size w w10 := ((BL4.trans ((unhide HBw6).mono (by omega))).trans (H8.mono (by omega))).trans (H10.mono (by omega))
  clear H8 H10 HBw6 HBw8 HBw10 HMm6 HMm8 HMm10 HQg5 HQg7 HQg9 HA4 HC4 BL4
  have E1 := hide (al14 g5 4 0 4 xs (unhide HF) (lk14 4) (by omega))
  have E2 := hide (al14 g7 4 16 16 xs (unhide HF) lk14b (by omega))
  go_wp2_with fail
  refine (alone_any (q14 g5 4 0) Sp (show 1 ≤ 9223372036854775807 by omega) hSp g3 h3 69 m6 xs _ (unhide HQ5) (q14_far (by omega)) (q14_far (by omega)) (unhide HM6) (unhide HAx) (by omega) (by omega) (unhide H64)).mono ?_
  rintro en w11 hal
  unfold AlEnd at hal
  rw [unhide E1] at hal
  obtain ⟨rfl, hc, hi, ha⟩ := hal
  have hz11 := hc.size
  have hn11 : ∀ i, ¬ i = m6 → ¬ i = h3 → ¬ Both m6 h3 i := fun i a b h => h.elim a b
  have HC11 := hide ((unhide HCx).chg hc (hn11 _ (by omega) (by omega)) (hn11 _ (by omega) (by omega)))
  have HM11 := hide ((unhide HM8).chg hc (hn11 _ (by omega) (by omega)))
  have HN11 := hide ((unhide HM10).chg hc (hn11 _ (by omega) (by omega)))
  have HQ11 := hide (Ask.ok_chg (unhide HQ7) hc (fun b o e => by unfold q14 at e; injection e with e; injection e with e _ _; exact hn11 _ (by omega) (by omega)))
  have HR11 := hide (Ask.ok_chg (unhide HQ9) hc (fun b o e => by unfold q14 at e; injection e with e; injection e with e _ _; exact hn11 _ (by omega) (by omega)))
  have BL11 : Below w.heap.size w w11 := BL10.trans (hc.below (fun i h => by rcases h with h | h <;> omega) (by omega))
  clear hc hi ha hn11 HCx HM8 HM10 HQ7 HQ9 HQ5 HM6 HAx BL10 E1
  have hBa : Below w11.heap.size w11 (w11.alloc (.cells #[.int .i64 0, .int .i64 8, .int .i64 4] 38)) := (Below.refl _ _).alloc (Nat.le_refl _) _
  have HX11 := hide (Cl3.new w11 38 0 8 4)
  have HC12 := hide ((unhide HC11).keep hBa)
  have HM12 := hide ((unhide HM11).keep hBa)
  have HN12 := hide ((unhide HN11).keep hBa)
  have HQ12 := hide (Ask.ok_keep (unhide HQ11) hBa)
  have HR12 := hide (Ask.ok_keep (unhide HR11) hBa)
  have BL12 := BL11.trans (hBa.mono (by omega))
  have hz12 := hBa.size
  clear hBa HC11 HM11 HN11 HQ11 HR11 BL11
  go_wp2_with fail
  refine (alone_any (q14 g7 4 16) Sp (show 1 ≤ 9223372036854775807 by omega) hSp g4 h4 69 m8 xs _ (unhide HQ12) (q14_far (by omega)) (q14_far (by omega)) (unhide HM12) (unhide HC12) (by omega) (by omega) (unhide H64)).mono ?_
  rintro en w13 hal
  unfold AlEnd at hal
  rw [unhide E2] at hal
  obtain ⟨rfl, hc, hi, ha⟩ := hal
  have hz13 := hc.size
  have hn11 : ∀ i, ¬ i = m8 → ¬ i = h4 → ¬ Both m8 h4 i := fun i a b h => h.elim a b
  have HC13 := hide ha
  have HN13 := hide ((unhide HN12).chg hc (hn11 _ (by omega) (by omega)))
  have HR13 := hide (Ask.ok_chg (unhide HR12) hc (fun b o e => by unfold q14 at e; injection e with e; injection e with e _ _; exact hn11 _ (by omega) (by omega)))
  have HX13 := hide ((unhide HX11).chg hc (hn11 _ (by omega) (by omega)))
  have BL13 : Below w.heap.size w w13 := BL12.trans (hc.below (fun i h => by rcases h with h | h <;> omega) (by omega))
  clear hc hi ha hn11 HC12 HM12 HN12 HQ12 HR12 HX11 BL12 E2
  have hBa : Below w13.heap.size w13 (w13.alloc (.cells #[.int .i64 0, .int .i64 8, .int .i64 16] 38)) := (Below.refl _ _).alloc (Nat.le_refl _) _
  have HX14 := hide ((unhide HX13).keep hBa)
  have HY14 := hide (Cl3.new w13 38 0 8 16)
  have HC14 := hide ((unhide HC13).keep hBa)
  have HN14 := hide ((unhide HN13).keep hBa)
  have HR14 := hide (Ask.ok_keep (unhide HR13) hBa)
  have BL14 := BL13.trans (hBa.mono (by omega))
  have hz14 := hBa.size
  clear hBa HC13 HN13 HR13 HX13 BL13
  have E3 := hide (alone_unfit (q14 g9 30 0) 69 (by omega) (upd xs 1 (frontW 0 (3 + 16) 32 0)) 0 (3 + 16) 32 0 30 (by unfold upd; rw [if_pos rfl]) (by decide) (by show (32 : Int) ≤ 32; omega) (.inl rfl) (by show lkN 0 30 0 0 (3 + 16) 32 0 = 30; unfold lkN; rw [if_neg (fun h => h.1 rfl)]) (by omega) (by omega))
  go_wp2_with fail
  refine (alone_any (q14 g9 30 0) Sp (show 1 ≤ 9223372036854775807 by omega) hSp g4 h4 69 m10 _ _ (unhide HR14) (q14_far (by omega)) (q14_far (by omega)) (unhide HN14) (unhide HC14) (by omega) (by omega) (all64_w _ _ _ _ _ (unhide H64))).mono ?_
  rintro en w15 hal
  unfold AlEnd at hal
  rw [unhide E3] at hal
  obtain ⟨rfl, hc, hi, ha⟩ := hal
  have hz15 := hc.size
  have hn11 : ∀ i, ¬ i = m10 → ¬ i = h4 → ¬ Both m10 h4 i := fun i a b h => h.elim a b
  obtain ⟨x9, x0, x1, x2⟩ := (unhide HX14).chg hc (hn11 _ (by omega) (by omega))
  obtain ⟨y9, y0, y1, y2⟩ := (unhide HY14).chg hc (hn11 _ (by omega) (by omega))
  have BL15 : Below w.heap.size w w15 := BL14.trans (hc.below (fun i h => by rcases h with h | h <;> omega) (by omega))
  clear hc hi ha hn11 HC14 HN14 HR14 HX14 HY14 BL14 E3
  go_wp2_with (go_at_call 13; refine (num14_any _ _).mono ?_; rintro e w' ⟨rfl, rfl⟩)
  go_ret
  exact ⟨rfl, by repeat (first | (with_reducible exact Below.refl _ _) | (with_reducible assumption) | (with_reducible refine Below.setCell ?_ (by first | (simp; done) | (simp; omega) | omega) _) | (with_reducible refine Below.alloc ?_ (by first | (simp; done) | (simp; omega) | omega) _) | (with_reducible refine Below.drew ?_))⟩
end Go.Proofs.Ytnnllhlcpmmcaaa
