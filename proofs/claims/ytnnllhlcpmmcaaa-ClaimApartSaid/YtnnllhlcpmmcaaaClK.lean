/- Package claim: a machine alone on an arena. -/
import Derived.Test.YtnnllhlcpmmcaaaClH
import Derived.Test.YtnnllhlcpmmcaaaCh
import Derived.Test.YtnnllhlcpmmcaaaArF
namespace Go.Proofs.Ytnnllhlcpmmcaaa
set_option linter.unusedVariables false
set_option linter.unusedSimpArgs false
open Go.RowKit

theorem IsM.chg {S : Nat → Prop} {w W : World} {m : Nat} {c : Nat → Value} (H : IsM w m c) (h : Chg S w W) (hm : ¬ S m) : IsM W m c :=
  ⟨Nat.lt_of_lt_of_le H.1 h.size, fun i hi => ⟨(h.cell H.1 hm).trans (H.2 i hi).1, (h.frozen H.1 hm).trans (H.2 i hi).2⟩⟩
theorem IsAr.chg {S : Nat → Prop} {w W : World} {g h n : Nat} {xs : Nat → Int} (H : IsAr w g h n xs) (hc : Chg S w W) (hg : ¬ S g) (hh : ¬ S h) : IsAr W g h n xs := by
  obtain ⟨h1, h2, h3, h4, h5, h6⟩ := H
  exact ⟨(hc.cell h2 hg).trans h1, Nat.lt_of_lt_of_le h2 hc.size, Nat.lt_of_lt_of_le h3 hc.size, h4, h5, fun i hi => ⟨(hc.cell h3 hh).trans (h6 i hi).1, (hc.frozen h3 hh).trans (h6 i hi).2⟩⟩
theorem ShOk.chg {T : Nat → Prop} {w W : World} {A : Option Addr} {len : Nat} {S : Nat → ByteArray} (H : ShOk w A len S) (hc : Chg T w W) (hm : ∀ b o, A = some ⟨b, o, none⟩ → ¬ T b) : ShOk W A len S := fun h => by
  obtain ⟨b, o, rfl, hb, hx⟩ := H h
  exact ⟨b, o, rfl, Nat.lt_of_lt_of_le hb hc.size, fun i hi => (hc.cell hb (hm b o rfl)).trans (hx i hi)⟩
theorem Ask.ok_chg {T : Nat → Prop} {w W : World} {q : Ask} {S : Nat → ByteArray} (h : q.ok w S) (hc : Chg T w W) (hm : ∀ b o, q.A = some ⟨b, o, none⟩ → ¬ T b) : q.ok W S := ⟨h.1.chg hc hm, h.2⟩

theorem IsAr.far {W : World} {g h n b i : Nat} {xs : Nat → Int} (H : IsAr W g h n xs) (hg : b ≠ g) (hh : b ≠ h) (v : Value) : IsAr (W.setCell ⟨b, i, none⟩ v) g h n xs :=
  H.chg (S := fun j => j = b) (Chg.set (S := fun j => j = b) (Chg.refl _ W) (.inr rfl) v) (fun e => hg e.symm) (fun e => hh e.symm)
theorem IsAr.alloc {W : World} {g h n : Nat} {xs : Nat → Int} (H : IsAr W g h n xs) (o : Obj) : IsAr (W.alloc o) g h n xs := H.keep ((Below.refl _ _).alloc (Nat.le_refl _) o)
theorem IsAr.drew {W : World} {g h n : Nat} {xs : Nat → Int} (H : IsAr W g h n xs) : IsAr W.drew g h n xs := H.keep ((Below.refl _ _).drew)

/-- A word. -/
def W64 (x : Int) : Prop := 0 ≤ x ∧ x ≤ 18446744073709551615

theorem w64_0 : W64 0 := ⟨by decide, by decide⟩

theorem frontW_64 (s l h o : Int) : W64 (frontW s l h o) := by
  unfold frontW W64
  split
  · rename_i h1
    have := rightB_iff.1 h1
    omega
  · omega

theorem lookM_v (q : Ask) (M : Mc) (x : Int) : W64 (lookM q M x).v := by
  unfold lookM
  split
  · exact w64_0
  split
  · exact w64_0
  split
  · exact w64_0
  · exact frontW_64 ..

theorem nextM_v (q : Ask) (M : Mc) (x : Int) : W64 (nextM q M x).v := by
  unfold nextM
  split
  · exact w64_0
  split
  · exact lookM_v ..
  split
  · split
    · exact w64_0
    split
    · exact w64_0
    · exact lookM_v ..
  · exact w64_0

theorem lookM_over (q : Ask) (M : Mc) (x : Int) (h : (lookM q M x).b = false) : (lookM q M x).M.pl = 4 := by
  unfold lookM at h ⊢
  split
  · rfl
  rename_i h1
  rw [if_neg h1] at h
  split
  · rfl
  rename_i h2
  rw [if_neg h2] at h
  split
  · rfl
  · rename_i h3
    rw [if_neg h3] at h
    cases h

theorem nextM_over (q : Ask) (M : Mc) (x : Int) (hM : M.ok) (h : (nextM q M x).b = false) : (nextM q M x).M.pl = 4 := by
  have hM1 := hM.1
  unfold nextM at h ⊢
  split
  · rename_i h1
    rw [if_pos h1] at h
    cases h
  rename_i h1
  rw [if_neg h1] at h
  split
  · rename_i h2
    rw [if_pos h2] at h
    exact lookM_over q M x h
  rename_i h2
  rw [if_neg h2] at h
  split
  · rename_i h3
    rw [if_pos h3] at h
    split
    · rfl
    rename_i h4
    rw [if_neg h4] at h
    split
    · rfl
    · rename_i h5
      rw [if_neg h5] at h
      exact lookM_over q _ x h
  · rename_i h3
    show M.pl = 4
    omega

/-- The words of an arena are words. -/
def All64 (n : Nat) (xs : Nat → Int) : Prop := ∀ i, i < n → W64 (xs i)

theorem doA_64 {n : Nat} {xs : Nat → Int} (H : All64 n xs) (k a o v : Int) : W64 (doA n xs k a o v) := by
  unfold doA
  split
  · rename_i h
    obtain ⟨h1, h2⟩ := h
    refine H _ ?_
    unfold doE at h1
    split at h1
    · split at h1
      · omega
      · split at h1
        · omega
        · omega
    · omega
  · exact w64_0

theorem doX_64 {n : Nat} {xs : Nat → Int} (H : All64 n xs) (k a o v : Int) (hv : W64 v) : All64 n (doX n xs k a o v) := by
  unfold doX
  split
  · intro i hi
    unfold upd
    split
    · exact hv
    · exact H i hi
  · exact H

structure Al where
  oe : Int
  oa : Int
  og : Int
  c : Nat
  M : Mc
  xs : Nat → Int

/-- What comes of a machine that is alone on an arena. -/
noncomputable def aloneF (q : Ask) (n : Nat) : Nat → Mc → (Nat → Int) → Int → Nat → Al
  | 0, M, xs, _, c => ⟨0, 0, 0, c, M, xs⟩
  | f + 1, M, xs, x, c =>
    if (nextM q M x).b = true then aloneF q n f (nextM q M x).M (doX n xs (nextM q M x).k (nextM q M x).a (nextM q M x).o (nextM q M x).v) (doA n xs (nextM q M x).k (nextM q M x).a (nextM q M x).o (nextM q M x).v) (c + 1)
    else ⟨(nextM q M x).M.oe, (nextM q M x).M.oa, (nextM q M x).M.og, c, (nextM q M x).M, xs⟩

def Both (m h : Nat) : Nat → Prop := fun i => i = m ∨ i = h

/-- The end of the walk. -/
def AlEnd (q : Ask) (w : World) (g h n m : Nat) (r : Al) (en : Ending) (w' : World) : Prop :=
  en = .returned (.tuple #[.agg #[.int .i64 r.oe, .int .i64 r.oa, .int .i64 r.og], .int .i64 (r.c : Nat)]) ∧ Chg (Both m h) w w' ∧ IsM w' m (r.M.c q) ∧ IsAr w' g h n r.xs

set_option maxHeartbeats 4000000 in
theorem alone_any (q : Ask) (S : Nat → ByteArray) (hlen : q.len ≤ 9223372036854775807) (hS : ∀ i, i < q.len → (S i).size ≤ 9223372036854775807) (g h n m : Nat) (xs : Nat → Int) (w : World) (hq : q.ok w S) (hfar : q.far m) (hfarh : q.far h) (H : IsM w m (newMc.c q)) (K : IsAr w g h n xs) (hmg : m ≠ g) (hmh : m ≠ h) (h64 : All64 n xs) :
    Calls Try.prog 27 #[.pointer (some ⟨g, 0, none⟩), .pointer (some ⟨m, 0, none⟩)] w (AlEnd q w g h n m (aloneF q n 60 newMc xs 0 0)) := by
  have HQ := hide hq
  have HM := hide H
  have HK := hide K
  have H64 := hide h64
  have hm := H.1
  have hg := K.2.1
  have hh := K.2.2.1
  have hne1 : m ≠ w.heap.size := by omega
  have hne2 : h ≠ w.heap.size := by omega
  clear hq H K h64
  go_enter Try.func27, Try.ntmps27
  go_wp2
  go_loopw [6, 7] (fun x i wr => ∃ (k : Nat) (M : Mc) (ys : Nat → Int) (y : Int), k ≤ 60 ∧ x = .int .u64 y ∧ i = .int .i64 k ∧ Hid (W64 y) ∧ Hid (All64 n ys) ∧ Hid M.ok ∧ Hid (IsM wr m (M.c q)) ∧ Hid (IsAr wr g h n ys) ∧ Hid (Chg (Both m h) w wr) ∧
      w.heap.size < wr.heap.size ∧ Hid ((∀ i, i < 3 → wr.cell? ⟨w.heap.size, i, none⟩ = some (.int .i64 0)) ∧ (∀ i, i < 3 → wr.frozen? ⟨w.heap.size, i, none⟩ = false)) ∧ Hid (aloneF q n 60 newMc xs 0 0 = aloneF q n (60 - k) M ys y k)) (fun _ i _ => 60 - (intOf i).toNat)
  case atStart =>
    refine ⟨0, newMc, xs, 0, by omega, rfl, rfl, hide w64_0, H64, hide newMc_ok, hide ((unhide HM).alloc _), hide ((unhide HK).keep (by repeat (first | exact Below.refl _ _ | assumption | refine Below.alloc ?_ (by first | (simp; done) | (simp; omega) | omega) _ | refine Below.setCell ?_ (by first | (simp; done) | (simp; omega) | omega) _ | apply Below.drew | refine Below.trans ?_ (Below.mono (by assumption) (by first | (simp; done) | (simp; omega) | omega))))), hide (Chg.of (by repeat (first | exact Below.refl _ _ | assumption | refine Below.alloc ?_ (by first | (simp; done) | (simp; omega) | omega) _ | refine Below.setCell ?_ (by first | (simp; done) | (simp; omega) | omega) _ | apply Below.drew | refine Below.trans ?_ (Below.mono (by assumption) (by first | (simp; done) | (simp; omega) | omega))))), by simp, hide ⟨fun i hi => ?_, fun i hi => ?_⟩, hide rfl⟩
    · rcases (show i = 0 ∨ i = 1 ∨ i = 2 by omega) with rfl | rfl | rfl <;> go_simp
    · rcases (show i = 0 ∨ i = 1 ∨ i = 2 by omega) with rfl | rfl | rfl <;> go_simp
  case round =>
    obtain ⟨k, M, ys, y, hk, rfl, rfl, HY, HYS, HMok, HMr, HKr, HC, hsz, HR, HE⟩ := hrel
    by_cases hlt : k < 60
    · have hqr := Ask.ok_chg (unhide HQ) (unhide HC) (fun b o e hb => hb.elim (hfar b o e) (hfarh b o e))
      have C := hide (nextM_any q M y m S hlen hS wr hqr hfar (unhide HMr) (unhide HMok) (unhide HY).1 (unhide HY).2)
      have HEs : Hid (aloneF q n (60 - k) M ys y k = if (nextM q M y).b = true then aloneF q n (60 - (k + 1)) (nextM q M y).M (doX n ys (nextM q M y).k (nextM q M y).a (nextM q M y).o (nextM q M y).v) (doA n ys (nextM q M y).k (nextM q M y).a (nextM q M y).o (nextM q M y).v) (k + 1) else ⟨(nextM q M y).M.oe, (nextM q M y).M.oa, (nextM q M y).M.og, k, (nextM q M y).M, ys⟩) := hide (by rw [show 60 - k = 60 - (k + 1) + 1 by omega]; rfl)
      have HOK := hide (nextM_ok q M y (unhide HMok))
      have HV := hide (nextM_v q M y)
      have HOV := hide (nextM_over q M y (unhide HMok))
      generalize hr : nextM q M y = r at C HEs HOK HV HOV
      have b0 : (k : Int) < 60 := by omega
      clear hqr hr
      go_wp2_with fail
      refine (unhide C).mono ?_
      unfold Nx.val
      rintro en w2 ⟨rfl, hg2, hI2⟩
      have hC2 := (unhide HC).trans (Chg.gr (S := Both m h) hg2 (.inl rfl))
      have HC2 := hide hC2
      have hz2 := hg2.size
      have HI2 := hide hI2
      have HK2 := hide ((unhide HKr).chg (Chg.gr (S := fun i => i = m) hg2 rfl) (fun e => hmg e.symm) (fun e => hmh e.symm))
      have HR2 : Hid ((∀ i, i < 3 → w2.cell? ⟨w.heap.size, i, none⟩ = some (.int .i64 0)) ∧ (∀ i, i < 3 → w2.frozen? ⟨w.heap.size, i, none⟩ = false)) := hide ⟨fun i hi => (gr_cell hg2 hsz (fun e => hne1 e.symm) i).trans ((unhide HR).1 i hi), fun i hi => (gr_frozen hg2 hsz (fun e => hne1 e.symm) i).trans ((unhide HR).2 i hi)⟩
      have hs2 : w.heap.size < w2.heap.size := by omega
      clear hg2 hI2 hC2 HC HKr HMr HR C
      cases hb : r.b with
      | true =>
        have HB := hide hb
        clear hb
        go_wp2_with fail
        refine (do_any g h n ys r.k r.a r.o r.v _ ((unhide HK2).keep (by repeat (first | exact Below.refl _ _ | assumption | refine Below.alloc ?_ (by first | (simp; done) | (simp; omega) | omega) _ | refine Below.setCell ?_ (by first | (simp; done) | (simp; omega) | omega) _ | apply Below.drew | refine Below.trans ?_ (Below.mono (by assumption) (by first | (simp; done) | (simp; omega) | omega)))))).mono ?_
        rintro en w3 ⟨rfl, hg3, hI3⟩
        have hz3 := hg3.size
        simp only [World.size_alloc] at hz3
        have hA2 : Below w2.heap.size w2 (w2.alloc (.cells #[.int .i64 r.k, .int .i64 r.a, .int .u64 r.o, .int .u64 r.v] 44)) := by repeat (first | exact Below.refl _ _ | assumption | refine Below.alloc ?_ (by first | (simp; done) | (simp; omega) | omega) _ | refine Below.setCell ?_ (by first | (simp; done) | (simp; omega) | omega) _ | apply Below.drew | refine Below.trans ?_ (Below.mono (by assumption) (by first | (simp; done) | (simp; omega) | omega)))
        have hC3 : Chg (Both m h) w2 w3 := (Chg.of hA2).trans (Chg.gr hg3 (.inr rfl))
        have hD3 : Chg (fun i => i = h) w2 w3 := (Chg.of hA2).trans (Chg.gr hg3 rfl)
        have HC3 := hide ((unhide HC2).trans hC3)
        have HI3 := hide ((unhide HI2).chg hD3 hmh)
        have HK3 := hide hI3
        have hw0 : ¬ w.heap.size = h := fun e => hne2 e.symm
        have HR3 : Hid ((∀ i, i < 3 → w3.cell? ⟨w.heap.size, i, none⟩ = some (.int .i64 0)) ∧ (∀ i, i < 3 → w3.frozen? ⟨w.heap.size, i, none⟩ = false)) := hide ⟨fun i hi => (hD3.cell hs2 hw0).trans ((unhide HR2).1 i hi), fun i hi => (hD3.frozen hs2 hw0).trans ((unhide HR2).2 i hi)⟩
        have HY3 := hide (doA_64 (unhide HYS) r.k r.a r.o r.v)
        have HYS3 := hide (doX_64 (unhide HYS) r.k r.a r.o r.v (unhide HV))
        have HE3 : Hid (aloneF q n 60 newMc xs 0 0 = aloneF q n (60 - (k + 1)) r.M (doX n ys r.k r.a r.o r.v) (doA n ys r.k r.a r.o r.v) (k + 1)) := hide (by rw [unhide HE, unhide HEs, if_pos (unhide HB)])
        have hs3 : w.heap.size < w3.heap.size := by omega
        generalize doA n ys r.k r.a r.o r.v = y3 at HY3 HE3 ⊢
        generalize doX n ys r.k r.a r.o r.v = ys3 at HYS3 HE3 HK3
        clear hg3 hI3 hA2 hC3 hD3 HC2 HI2 HK2 HR2 HE HEs HB HV HOV HMok HYS
        go_wp2
        go_roundw
        case measure => simp [intOf]; omega
        case rel => exact ⟨k + 1, r.M, ys3, y3, by omega, rfl, by go_num, HY3, HYS3, HOK, HI3, HK3, HC3, hs3, HR3, HE3⟩
      | false =>
        have h4 := unhide HOV hb
        have HB := hide hb
        clear hb
        go_wp2_with fail
        refine (out_over m _ r.M.oe r.M.oa r.M.og _ ((unhide HI2).alloc _) (by show Value.int .i64 r.M.pl = _; rw [h4]) rfl rfl rfl).mono ?_
        rintro en w3 ⟨rfl, hb3⟩
        have hz3 := hb3.size
        simp only [World.size_alloc] at hz3
        have hB3 : Below w2.heap.size w2 w3 := by repeat (first | exact Below.refl _ _ | assumption | refine Below.alloc ?_ (by first | (simp; done) | (simp; omega) | omega) _ | refine Below.setCell ?_ (by first | (simp; done) | (simp; omega) | omega) _ | apply Below.drew | refine Below.trans ?_ (Below.mono (by assumption) (by first | (simp; done) | (simp; omega) | omega)))
        have HC3 := hide ((unhide HC2).trans (Chg.of hB3))
        have HI3 := hide ((unhide HI2).keep hB3)
        have HK3 := hide ((unhide HK2).keep hB3)
        have x0 := (hB3.cell (p := ⟨w.heap.size, 0, none⟩) hs2).trans ((unhide HR2).1 0 (by omega))
        have x1 := (hB3.cell (p := ⟨w.heap.size, 1, none⟩) hs2).trans ((unhide HR2).1 1 (by omega))
        have x2 := (hB3.cell (p := ⟨w.heap.size, 2, none⟩) hs2).trans ((unhide HR2).1 2 (by omega))
        have y0 := (hB3.frozen (p := ⟨w.heap.size, 0, none⟩) hs2).trans ((unhide HR2).2 0 (by omega))
        have y1 := (hB3.frozen (p := ⟨w.heap.size, 1, none⟩) hs2).trans ((unhide HR2).2 1 (by omega))
        have y2 := (hB3.frozen (p := ⟨w.heap.size, 2, none⟩) hs2).trans ((unhide HR2).2 2 (by omega))
        have HE3 : Hid (aloneF q n 60 newMc xs 0 0 = ⟨r.M.oe, r.M.oa, r.M.og, k, r.M, ys⟩) := hide (by rw [unhide HE, unhide HEs, if_neg (by rw [unhide HB]; simp)])
        have hs3 : w.heap.size < w3.heap.size := by omega
        have hm3 := (unhide HI3).1
        have hmw : ¬ w.heap.size = m := fun e => hne1 e.symm
        have hhw : ¬ w.heap.size = h := fun e => hne2 e.symm
        have hgw : ¬ w.heap.size = g := fun e => by omega
        clear hb3 hB3 HC2 HI2 HK2 HR2 HE HEs HB HV HOV HMok HYS h4
        go_wp2
        refine bodyPost_ret (v := .tuple #[.agg #[.int .i64 r.M.oe, .int .i64 r.M.oa, .int .i64 r.M.og], .int .i64 (k : Nat)]) (by simp only [results, Try.results27]; go_simp) rfl ?_
        unfold AlEnd
        rw [unhide HE3]
        refine ⟨rfl, ?_, ?_, ?_⟩
        · (repeat (first | (with_reducible exact unhide HC3) | (with_reducible refine Chg.drew ?_) | (with_reducible refine Chg.alloc ?_ _) | (with_reducible refine Chg.set ?_ (.inl (by omega)) _))); done
        · (repeat (first | (with_reducible exact unhide HI3) | (with_reducible refine IsM.drew ?_) | (with_reducible refine IsM.alloc ?_ _) | (with_reducible refine IsM.set ?_ (by omega) _) | (with_reducible refine IsM.far ?_ (by omega) _))); done
        · (repeat (first | (with_reducible exact unhide HK3) | (with_reducible refine IsAr.drew ?_) | (with_reducible refine IsAr.alloc ?_ _) | (with_reducible refine IsAr.far ?_ (by omega) (by omega) _))); done
    · obtain rfl : k = 60 := by omega
      have hmr := (unhide HMr).1
      have hmw : ¬ w.heap.size = m := fun e => hne1 e.symm
      have hhw : ¬ w.heap.size = h := fun e => hne2 e.symm
      have hgw : ¬ w.heap.size = g := fun e => by omega
      have x0 := (unhide HR).1 0 (by omega)
      have x1 := (unhide HR).1 1 (by omega)
      have x2 := (unhide HR).1 2 (by omega)
      have y0 := (unhide HR).2 0 (by omega)
      have y1 := (unhide HR).2 1 (by omega)
      have y2 := (unhide HR).2 2 (by omega)
      have HE3 : Hid (aloneF q n 60 newMc xs 0 0 = ⟨0, 0, 0, 60, M, ys⟩) := hide (by rw [unhide HE]; rfl)
      clear HE HR HY HYS HMok
      go_wp2
      refine bodyPost_ret (v := .tuple #[.agg #[.int .i64 0, .int .i64 0, .int .i64 0], .int .i64 60]) (by simp only [results, Try.results27]; go_simp) rfl ?_
      unfold AlEnd
      rw [unhide HE3]
      refine ⟨rfl, ?_, ?_, ?_⟩
      · (repeat (first | (with_reducible exact unhide HC) | (with_reducible refine Chg.drew ?_) | (with_reducible refine Chg.alloc ?_ _) | (with_reducible refine Chg.set ?_ (.inl (by omega)) _))); done
      · (repeat (first | (with_reducible exact unhide HMr) | (with_reducible refine IsM.drew ?_) | (with_reducible refine IsM.alloc ?_ _) | (with_reducible refine IsM.set ?_ (by omega) _) | (with_reducible refine IsM.far ?_ (by omega) _))); done
      · (repeat (first | (with_reducible exact unhide HKr) | (with_reducible refine IsAr.drew ?_) | (with_reducible refine IsAr.alloc ?_ _) | (with_reducible refine IsAr.far ?_ (by omega) (by omega) _))); done
end Go.Proofs.Ytnnllhlcpmmcaaa
