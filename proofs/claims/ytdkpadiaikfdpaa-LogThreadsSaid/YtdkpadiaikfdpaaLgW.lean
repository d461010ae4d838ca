/- The walk of package log's rows. -/
import Derived.Test.YtdkpadiaikfdpaaLgH
import Derived.Test.YtdkpadiaikfdpaaLgK
namespace Go.Proofs.Ytdkpadiaikfdpaa
set_option linter.unusedVariables false
set_option linter.unusedSimpArgs false
open Go.RowKit

theorem rLoad_any (a : Int) (w : World) : Calls Try.prog 25 #[.int .i64 a] w fun e w' => e = .returned (.agg #[.int .i64 1, .int .i64 a, .int .u64 0, .int .u64 0]) ∧ Below w.heap.size w w' := by
  go_enter Try.func25, Try.ntmps25
  go_wp2
  refine bodyPost_ret (v := .agg #[.int .i64 1, .int .i64 a, .int .u64 0, .int .u64 0]) (by simp only [results, Try.results25]; go_simp) rfl ?_
  refine ⟨rfl, ?_⟩
  repeat (first | exact Below.refl _ _ | assumption | refine Below.alloc ?_ (by first | (simp; done) | (simp; omega) | omega) _ | refine Below.setCell ?_ (by first | (simp; done) | (simp; omega) | omega) _ | apply Below.drew | refine Below.trans ?_ (Below.mono (by assumption) (by first | (simp; done) | (simp; omega) | omega)))

theorem rStore_any (a v : Int) (w : World) : Calls Try.prog 27 #[.int .i64 a, .int .u64 v] w fun e w' => e = .returned (.agg #[.int .i64 2, .int .i64 a, .int .u64 0, .int .u64 v]) ∧ Below w.heap.size w w' := by
  go_enter Try.func27, Try.ntmps27
  go_wp2
  refine bodyPost_ret (v := .agg #[.int .i64 2, .int .i64 a, .int .u64 0, .int .u64 v]) (by simp only [results, Try.results27]; go_simp) rfl ?_
  refine ⟨rfl, ?_⟩
  repeat (first | exact Below.refl _ _ | assumption | refine Below.alloc ?_ (by first | (simp; done) | (simp; omega) | omega) _ | refine Below.setCell ?_ (by first | (simp; done) | (simp; omega) | omega) _ | apply Below.drew | refine Below.trans ?_ (Below.mono (by assumption) (by first | (simp; done) | (simp; omega) | omega)))

theorem rCas_any (a o v : Int) (w : World) : Calls Try.prog 26 #[.int .i64 a, .int .u64 o, .int .u64 v] w fun e w' => e = .returned (.agg #[.int .i64 3, .int .i64 a, .int .u64 o, .int .u64 v]) ∧ Below w.heap.size w w' := by
  go_enter Try.func26, Try.ntmps26
  go_wp2
  refine bodyPost_ret (v := .agg #[.int .i64 3, .int .i64 a, .int .u64 o, .int .u64 v]) (by simp only [results, Try.results26]; go_simp) rfl ?_
  refine ⟨rfl, ?_⟩
  repeat (first | exact Below.refl _ _ | assumption | refine Below.alloc ?_ (by first | (simp; done) | (simp; omega) | omega) _ | refine Below.setCell ?_ (by first | (simp; done) | (simp; omega) | omega) _ | apply Below.drew | refine Below.trans ?_ (Below.mono (by assumption) (by first | (simp; done) | (simp; omega) | omega)))

def stW : Nat → Nat → Int
  | 0, 1 => 1 | 0, 2 => 1 | 0, 5 => 5
  | 1, 0 => 1 | 1, 1 => 3 | 1, 4 => 7
  | 2, 1 => 2 | 2, 2 => 1 | 2, 4 => 5
  | _, _ => 0

def stX : Nat → Nat → Int
  | 0, 1 => 3 | 0, 3 => 1 | 0, 4 => 7 | 0, 5 => 1
  | _, _ => 0

def zz (a b : Int) (i : Nat) : Int := if i = 0 then a else b

theorem words2 (W : World) (n : Nat) (hn : W.heap.size = n) (a b : Int) (t : TypeId) : ∀ i, i < 2 → (W.alloc (.cells #[.int .u64 a, .int .u64 b] t)).cell? ⟨n, 0 + i, none⟩ = some (.int .u64 (zz a b i)) := by
  subst hn
  intro i hi
  match i, hi with
  | 0, _ => exact (World.cell?_alloc_new W _ _ _).trans rfl
  | 1, _ => exact (World.cell?_alloc_new W _ _ _).trans rfl

theorem ok_W : ∀ i, i < 3 → okS 2 (zz 0 5) stW i = true := by decide
theorem aft_W : ∀ i, i < 2 → aft 2 (zz 0 5) stW 3 i = zz 7 5 i := by decide
theorem chg_W : plc (chB 2 (zz 0 5) stW) 3 = [1] := by decide
theorem lst_W : lst (pLa stW 1) 3 = 2 := by decide
theorem ok_X : okS 2 (zz 0 5) stX 0 = false := by decide

theorem wk_wrong (n bs : Nat) (W : World) (hn : n < W.heap.size) (hc : ∀ i, i < 2 → W.cell? ⟨n, 0 + i, none⟩ = some (.int .u64 (zz 0 5 i))) (hS : StOk W (some ⟨bs, 0, none⟩) 3 stW) :
    Calls Try.prog 11 #[.slice (some ⟨n, 0, none⟩) 2 2, .slice (some ⟨bs, 0, none⟩) 3 3] W fun e w' => e = .returned (.tuple #[.int .i64 0, .bool false, .int .i64 0]) ∧ Below W.heap.size W w' := by
  refine (wrong_yes n 0 2 2 (zz 0 5) (by omega) (by omega) _ 3 3 stW (by omega) W hn hc hS).mono ?_
  rintro e w' ⟨⟨k, h1, h2, _⟩ | ⟨_, rfl⟩, hb⟩
  · rw [ok_W k h1] at h2
    cases h2
  · exact ⟨rfl, hb⟩

theorem wk_wrong2 (n bs : Nat) (W : World) (hn : n < W.heap.size) (hc : ∀ i, i < 2 → W.cell? ⟨n, 0 + i, none⟩ = some (.int .u64 (zz 0 5 i))) (hS : StOk W (some ⟨bs, 0, none⟩) 1 stX) :
    Calls Try.prog 11 #[.slice (some ⟨n, 0, none⟩) 2 2, .slice (some ⟨bs, 0, none⟩) 1 1] W fun e w' => e = .returned (.tuple #[.int .i64 0, .bool true, .int .i64 0]) ∧ Below W.heap.size W w' := by
  refine (wrong_yes n 0 2 2 (zz 0 5) (by omega) (by omega) _ 1 1 stX (by omega) W hn hc hS).mono ?_
  rintro e w' ⟨⟨k, h1, h2, _, rfl⟩ | ⟨h, rfl⟩, hb⟩
  · obtain rfl : k = 0 := by omega
    exact ⟨rfl, hb⟩
  · have := h 0 (by omega)
    rw [ok_X] at this
    cases this

/-- What End leaves in works. -/
def WkEnd (w' : World) (e : Ending) : Prop := ∃ b c, e = .returned (.tuple #[.slice (some ⟨b, 0, none⟩) 2 c, .int .i64 0]) ∧ b < w'.heap.size ∧ ∀ i, i < 2 → w'.cell? ⟨b, 0 + i, none⟩ = some (.int .u64 (zz 7 5 i))

theorem wk_end (n bs : Nat) (W : World) (hn : n < W.heap.size) (hc : ∀ i, i < 2 → W.cell? ⟨n, 0 + i, none⟩ = some (.int .u64 (zz 0 5 i))) (hS : StOk W (some ⟨bs, 0, none⟩) 3 stW) :
    Calls Try.prog 12 #[.slice (some ⟨n, 0, none⟩) 2 2, .slice (some ⟨bs, 0, none⟩) 3 3] W fun e w' => WkEnd w' e ∧ Below W.heap.size W w' := by
  refine (end_yes n 0 2 2 (zz 0 5) (by omega) (by omega) _ 3 3 stW (by omega) W hn hc hS).mono ?_
  rintro e w' ⟨⟨_, b, c, rfl, h1, h2⟩ | ⟨⟨k, h1, h2⟩, _⟩, hb⟩
  · exact ⟨⟨b, c, rfl, h1, fun i hi => by rw [h2 i hi, aft_W i hi]⟩, hb⟩
  · rw [ok_W k h1] at h2
    cases h2

/-- What Changes leaves in works. -/
def WkChg (w' : World) (e : Ending) : Prop := ∃ A c, e = .returned (.tuple #[.slice A 1 c, .int .i64 0]) ∧ RdL w' .i64 A [1]

theorem wk_chg (n bs : Nat) (W : World) (hn : n < W.heap.size) (hc : ∀ i, i < 2 → W.cell? ⟨n, 0 + i, none⟩ = some (.int .u64 (zz 0 5 i))) (hS : StOk W (some ⟨bs, 0, none⟩) 3 stW) :
    Calls Try.prog 13 #[.slice (some ⟨n, 0, none⟩) 2 2, .slice (some ⟨bs, 0, none⟩) 3 3] W fun e w' => WkChg w' e ∧ Below W.heap.size W w' := by
  refine (changes_yes n 0 2 2 (zz 0 5) (by omega) (by omega) _ 3 3 stW (by omega) W hn hc hS).mono ?_
  rintro e w' ⟨⟨_, A, c, rfl, h1⟩ | ⟨⟨k, h1, h2⟩, _⟩, hb⟩
  · rw [chg_W] at h1 ⊢
    exact ⟨⟨A, c, rfl, h1⟩, hb⟩
  · rw [ok_W k h1] at h2
    cases h2

theorem wk_last (bs : Nat) (W : World) (hS : StOk W (some ⟨bs, 0, none⟩) 3 stW) :
    Calls Try.prog 19 #[.slice (some ⟨bs, 0, none⟩) 3 3, .int .i64 1] W fun e w' => e = .returned (.tuple #[.int .i64 2, .bool true]) ∧ Below W.heap.size W w' := by
  have c := last_any (some ⟨bs, 0, none⟩) 3 3 stW 1 (by omega) W hS
  rw [lst_W] at c
  exact c

theorem wk_same (b n c d : Nat) (W : World) (h1 : ∀ i, i < 2 → W.cell? ⟨b, 0 + i, none⟩ = some (.int .u64 (zz 7 5 i))) (h2 : ∀ i, i < 2 → W.cell? ⟨n, 0 + i, none⟩ = some (.int .u64 (zz 7 5 i))) :
    Calls Try.prog 17 #[.slice (some ⟨b, 0, none⟩) 2 c, .slice (some ⟨n, 0, none⟩) 2 d] W fun e w' => e = .returned (.bool true) ∧ Below W.heap.size W w' := by
  have q := refSame_any b 0 c n 0 d 2 (zz 7 5) (zz 7 5) (by omega) W h1 h2
  rw [show eqTo (zz 7 5) (zz 7 5) 2 = true from eqTo_iff.2 fun _ _ => rfl] at q
  exact q

theorem wk_same2 (A B : Option Addr) (c d : Nat) (W : World) (h1 : RdL W .i64 A [1]) (h2 : RdL W .i64 B [1]) :
    Calls Try.prog 18 #[.slice A 1 c, .slice B 1 d] W fun e w' => e = .returned (.bool true) ∧ Below W.heap.size W w' := by
  have q := same13_any A B c d [1] [1] (by simp) (by simp) W h1 h2
  simpa using q

theorem st_W (W : World) (n : Nat) (hn : W.heap.size = n) (t : TypeId) : StOk (W.alloc (.cells #[.int .i64 0, .int .i64 1, .int .i64 1, .int .u64 0, .int .u64 0, .int .u64 5, .int .i64 1, .int .i64 3, .int .i64 0, .int .u64 0, .int .u64 7, .int .u64 0, .int .i64 0, .int .i64 2, .int .i64 1, .int .u64 0, .int .u64 5, .int .u64 0] t)) (some ⟨n, 0, none⟩) 3 stW := by
  subst hn
  refine fun _ => ⟨_, 0, rfl, by simp, fun i hi => ?_⟩
  match i, hi with
  | 0, _ => refine ⟨?_, ?_, ?_, ?_, ?_, ?_⟩ <;> exact (World.cell?_alloc_new W _ _ _).trans rfl
  | 1, _ => refine ⟨?_, ?_, ?_, ?_, ?_, ?_⟩ <;> exact (World.cell?_alloc_new W _ _ _).trans rfl
  | 2, _ => refine ⟨?_, ?_, ?_, ?_, ?_, ?_⟩ <;> exact (World.cell?_alloc_new W _ _ _).trans rfl

theorem st_X (W : World) (n : Nat) (hn : W.heap.size = n) (t : TypeId) : StOk (W.alloc (.cells #[.int .i64 0, .int .i64 3, .int .i64 0, .int .u64 1, .int .u64 7, .int .u64 1] t)) (some ⟨n, 0, none⟩) 1 stX := by
  subst hn
  refine fun _ => ⟨_, 0, rfl, by simp, fun i hi => ?_⟩
  match i, hi with
  | 0, _ => refine ⟨?_, ?_, ?_, ?_, ?_, ?_⟩ <;> exact (World.cell?_alloc_new W _ _ _).trans rfl

theorem alloc_below (W : World) (o : Obj) : Below W.heap.size W (W.alloc o) := (Below.refl _ _).alloc (Nat.le_refl _) _

set_option maxRecDepth 100000 in
set_option maxHeartbeats 4000000 in
theorem works13_any (w : World) : Calls Try.prog 10 #[] w fun e w' => e = .returned (.bool true) ∧ Below w.heap.size w w' := by
  go_enter Try.func10, Try.ntmps10
  go_wp2_with fail
  refine (rLoad_any _ _).mono ?_
  rintro e w1 ⟨rfl, hb1⟩
  have B1 := hide hb1
  clear hb1
  go_wp2_with fail
  refine (rCas_any _ _ _ _).mono ?_
  rintro e w2 ⟨rfl, hb2⟩
  have B2 := hide ((unhide B1).trans (hb2.mono (unhide B1).size))
  clear hb2 B1
  go_wp2_with fail
  refine (rStore_any _ _ _).mono ?_
  rintro e w3 ⟨rfl, hb3⟩
  have B3 := hide ((unhide B2).trans (hb3.mono (unhide B2).size))
  clear hb3 B2
  go_wp2_with fail
  obtain ⟨W, hW⟩ : ∃ W, W = w3.alloc (.cells #[.int .i64 0, .int .i64 1, .int .i64 1, .int .u64 0, .int .u64 0, .int .u64 5, .int .i64 1, .int .i64 3, .int .i64 0, .int .u64 0, .int .u64 7, .int .u64 0, .int .i64 0, .int .i64 2, .int .i64 1, .int .u64 0, .int .u64 5, .int .u64 0] 47) := ⟨_, rfl⟩
  have hsW : W.heap.size = w3.heap.size + 1 := by rw [hW]; simp
  have HS := hide (show StOk W (some ⟨w3.heap.size, 0, none⟩) 3 stW by rw [hW]; exact st_W w3 _ rfl _)
  have BW := hide (show Below w.heap.size w W by rw [hW]; exact (unhide B3).alloc (unhide B3).size _)
  rw [← hW]
  clear hW B3
  have HSW := hide hsW
  clear hsW
  refine (wk_wrong (w3.heap.size + 1) w3.heap.size _ (by have := unhide HSW; simp; omega) (words2 W _ (unhide HSW) 0 5 _) ((unhide HS).keep (alloc_below _ _))).mono ?_
  rintro e w4 ⟨rfl, hb4⟩
  have A4 := (alloc_below _ _).trans (hb4.mono (by simp))
  have HS := hide ((unhide HS).keep A4)
  have B4 := hide ((unhide BW).trans (A4.mono (unhide BW).size))
  clear A4 hb4 BW HSW
  go_wp2_with fail
  refine (wk_end w4.heap.size w3.heap.size _ (by simp) (words2 w4 _ rfl 0 5 _) ((unhide HS).keep (alloc_below _ _))).mono ?_
  rintro e w5 ⟨⟨b, c, rfl, hb, hcc⟩, hb5⟩
  have A5 := (alloc_below _ _).trans (hb5.mono (by simp))
  have HS := hide ((unhide HS).keep A5)
  have B5 := hide ((unhide B4).trans (A5.mono (unhide B4).size))
  have HE := hide (And.intro hb hcc)
  clear A5 hb5 B4 hb hcc
  go_wp2_with fail
  refine (wk_chg w5.heap.size w3.heap.size _ (by simp) (words2 w5 _ rfl 0 5 _) ((unhide HS).keep (alloc_below _ _))).mono ?_
  rintro e w6 ⟨⟨A6, c6, rfl, hr6⟩, hb6⟩
  have A := (alloc_below _ _).trans (hb6.mono (by simp))
  have HS := hide ((unhide HS).keep A)
  have B6 := hide ((unhide B5).trans (A.mono (unhide B5).size))
  have HE := hide (And.intro (Nat.lt_of_lt_of_le (unhide HE).1 A.size) (fun i hi => (A.cell (p := ⟨b, 0 + i, none⟩) (unhide HE).1).trans ((unhide HE).2 i hi)))
  have HR := hide hr6
  clear A hb6 B5 hr6
  go_wp2_with fail
  refine (wk_last w3.heap.size w6 (unhide HS)).mono ?_
  rintro e w7 ⟨rfl, hb7⟩
  have B7 := hide ((unhide B6).trans (hb7.mono (unhide B6).size))
  have HE := hide (And.intro (Nat.lt_of_lt_of_le (unhide HE).1 hb7.size) (fun i hi => (hb7.cell (p := ⟨b, 0 + i, none⟩) (unhide HE).1).trans ((unhide HE).2 i hi)))
  have HR := hide ((unhide HR).keep hb7)
  clear hb7 B6 HS
  go_wp2_with fail
  refine (rCas_any _ _ _ _).mono ?_
  rintro e w8 ⟨rfl, hb8⟩
  have A := (alloc_below _ _).trans (hb8.mono (by simp))
  have B8 := hide ((unhide B7).trans (A.mono (unhide B7).size))
  have HE := hide (And.intro (Nat.lt_of_lt_of_le (unhide HE).1 A.size) (fun i hi => (A.cell (p := ⟨b, 0 + i, none⟩) (unhide HE).1).trans ((unhide HE).2 i hi)))
  have HR := hide ((unhide HR).keep A)
  have HW := hide (And.intro (show w7.heap.size < w8.heap.size by have := hb8.size; simp at this; omega) (fun i hi => (hb8.cell (p := ⟨w7.heap.size, 0 + i, none⟩) (by simp)).trans (words2 w7 _ rfl 0 5 _ i hi) : ∀ i, i < 2 → w8.cell? ⟨w7.heap.size, 0 + i, none⟩ = some (.int .u64 (zz 0 5 i))))
  clear A hb8 B7
  go_wp2_with fail
  refine (wk_wrong2 w7.heap.size w8.heap.size _ (by have := (unhide HW).1; simp; omega) (fun i hi => (World.cell?_alloc_lt _ _ _ (unhide HW).1).trans ((unhide HW).2 i hi)) (st_X w8 _ rfl _)).mono ?_
  rintro e w9 ⟨rfl, hb9⟩
  have A := (alloc_below _ _).trans (hb9.mono (by simp))
  have B9 := hide ((unhide B8).trans (A.mono (unhide B8).size))
  have HE := hide (And.intro (Nat.lt_of_lt_of_le (unhide HE).1 A.size) (fun i hi => (A.cell (p := ⟨b, 0 + i, none⟩) (unhide HE).1).trans ((unhide HE).2 i hi)))
  have HR := hide ((unhide HR).keep A)
  clear A hb9 B8 HW
  go_wp2_with fail
  refine (wk_same b w9.heap.size c 2 _ (fun i hi => (World.cell?_alloc_lt _ _ _ (unhide HE).1).trans ((unhide HE).2 i hi)) (words2 w9 _ rfl 7 5 _)).mono ?_
  rintro e w10 ⟨rfl, hb10⟩
  have A := (alloc_below _ _).trans (hb10.mono (by simp))
  have B10 := hide ((unhide B9).trans (A.mono (unhide B9).size))
  have HR := hide ((unhide HR).keep A)
  clear A hb10 B9 HE
  go_wp2_with fail
  refine (wk_same2 A6 (some ⟨w10.heap.size, 0, none⟩) c6 1 _ ((unhide HR).keep (alloc_below _ _)) (fun _ => ⟨_, 0, rfl, by simp, fun i hi => by
    obtain rfl : i = 0 := by simpa using hi
    exact (World.cell?_alloc_new w10 _ _ _).trans rfl⟩)).mono ?_
  rintro e w11 ⟨rfl, hb11⟩
  have A := (alloc_below _ _).trans (hb11.mono (by simp))
  have B11 := hide ((unhide B10).trans (A.mono (unhide B10).size))
  clear A hb11 B10 HR
  go_wp2_with (go_at_call 15; refine (num13_any _ _).mono ?_; rintro e w' ⟨rfl, rfl⟩)
  go_ret
  exact ⟨rfl, unhide B11⟩
end Go.Proofs.Ytdkpadiaikfdpaa
