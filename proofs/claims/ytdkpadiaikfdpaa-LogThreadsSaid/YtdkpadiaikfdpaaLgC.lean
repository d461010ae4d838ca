/- The walks of package log: a log over words; its steps gone over, each with whether it is right. -/
import Derived.Test.YtdkpadiaikfdpaaLgA
import Derived.Test.YtdkpadiaikfdpaaRf
import Derived.Test.YtdkpadiaikfdpaaArH
import Derived.Test.YtdkpadiaikfdpaaArG
namespace Go.Proofs.Ytdkpadiaikfdpaa
set_option linter.unusedVariables false
set_option linter.unusedSimpArgs false
open Go.RowKit Go.Shelf

attribute [local go_sem] Oper.semAt_some

/-- The words behind k steps. -/
def aft (m : Nat) (z : Nat → Int) (st : Nat → Nat → Int) : Nat → (Nat → Int)
  | 0 => z
  | k + 1 => doX m (aft m z st k) (st k 1) (st k 2) (st k 3) (st k 4)

/-- Is step k right? -/
def okS (m : Nat) (z : Nat → Int) (st : Nat → Nat → Int) (k : Nat) : Bool :=
  decide (doE m (st k 1) (st k 2) (st k 3) (st k 4) = 0) && decide (doA m (aft m z st k) (st k 1) (st k 2) (st k 3) (st k 4) = st k 5)

theorem IsAr.keepAt {w W : World} {g h n n₀ : Nat} {xs : Nat → Int} (H : IsAr w g h n xs) (hb : Below n₀ w W) (hg : g < n₀) (hh : h < n₀) : IsAr W g h n xs := by
  obtain ⟨h1, h2, h3, h4, h5, h6⟩ := H
  refine ⟨(hb.cell (p := ⟨g, 0, none⟩) hg).trans h1, Nat.lt_of_lt_of_le h2 hb.size, Nat.lt_of_lt_of_le h3 hb.size, h4, h5, fun i hi => ?_⟩
  exact ⟨(hb.cell (p := ⟨h, i, none⟩) hh).trans (h6 i hi).1, (hb.frozen (p := ⟨h, i, none⟩) hh).trans (h6 i hi).2⟩

set_option maxHeartbeats 1000000 in
theorem lgof_yes (b o len cap : Nat) (xs : Nat → Int) (hn : 1 ≤ len) (hn2 : len ≤ 16384) (w : World) (hb : b < w.heap.size) (hc : ∀ i, i < len → w.cell? ⟨b, o + i, none⟩ = some (.int .u64 (xs i))) :
    Calls Try.prog 28 #[.slice (some ⟨b, o, none⟩) len cap] w fun e w' => ∃ g h, e = .returned (.tuple #[.agg #[.pointer (some ⟨g, 0, none⟩)], .int .i64 0]) ∧ Below w.heap.size w w' ∧ w.heap.size ≤ g ∧ w.heap.size ≤ h ∧ IsAr w' g h len xs := by
  have c := hide (of_yes b o len cap xs hn hn2 (w.alloc (.cells #[.pointer none] 58)) (by simp; omega) (fun i hi => (World.cell?_alloc_lt _ _ _ hb).trans (hc i hi)))
  clear hc
  go_enter Try.func28, Try.ntmps28
  go_wp2_with fail
  refine (unhide c).mono ?_
  rintro e w1 ⟨g, h, rfl, hb1, hg, hh, H1⟩
  have hz1 := hb1.size
  have q1 : w1.cell? ⟨w.heap.size, 0, none⟩ = some (.pointer none) := (hb1.cell (p := ⟨w.heap.size, 0, none⟩) (by simp)).trans (by go_simp)
  have q2 : w1.frozen? ⟨w.heap.size, 0, none⟩ = false := (hb1.frozen (p := ⟨w.heap.size, 0, none⟩) (by simp)).trans (by go_simp)
  simp only [World.size_alloc] at hz1 hg hh
  have H1 := hide H1
  have B1 : Below w.heap.size w w1 := by repeat (first | exact Below.refl _ _ | assumption | refine Below.alloc ?_ (by first | (simp; done) | (simp; omega) | omega) _ | refine Below.setCell ?_ (by first | (simp; done) | (simp; omega) | omega) _ | apply Below.drew | refine Below.trans ?_ (Below.mono (by assumption) (by first | (simp; done) | (simp; omega) | omega)))
  clear hb1 c
  go_wp2
  refine bodyPost_ret (v := .tuple #[.agg #[.pointer (some ⟨g, 0, none⟩)], .int .i64 0]) (by simp only [results, Try.results28]; go_simp) rfl ?_
  refine ⟨g, h, rfl, B1.setCell (p := ⟨w.heap.size, 0, none⟩) (Nat.le_refl _) _, by omega, by omega, ?_⟩
  obtain ⟨a1, a2, a3, a4, a5, a6⟩ := unhide H1
  refine ⟨?_, by simpa using a2, by simpa using a3, a4, a5, fun i hi => ⟨?_, by rw [World.frozen?_setCell]; exact (a6 i hi).2⟩⟩
  · rw [World.cell?_setCell_other _ _ _ _ (fun e => by injection e with e _ _; omega)]
    exact a1
  · rw [World.cell?_setCell_other _ _ _ _ (fun e => by injection e with e _ _; omega)]
    exact (a6 i hi).1

set_option maxHeartbeats 1000000 in
theorem lgof_no (A : Option Addr) (len cap : Nat) (hlen : len ≤ 9223372036854775807) (hn : ¬ (1 ≤ len ∧ len ≤ 16384)) (w : World) :
    Calls Try.prog 28 #[.slice A len cap] w fun e w' => e = .returned (.tuple #[.agg #[.pointer none], .int .i64 2]) ∧ Below w.heap.size w w' := by
  have c := hide (of_no A len cap hlen hn (w.alloc (.cells #[.pointer none] 58)))
  clear hn
  go_enter Try.func28, Try.ntmps28
  go_wp2_with fail
  refine (unhide c).mono ?_
  rintro e w1 ⟨rfl, hb1⟩
  have hz1 := hb1.size
  have q1 : w1.cell? ⟨w.heap.size, 0, none⟩ = some (.pointer none) := (hb1.cell (p := ⟨w.heap.size, 0, none⟩) (by simp)).trans (by go_simp)
  have q2 : w1.frozen? ⟨w.heap.size, 0, none⟩ = false := (hb1.frozen (p := ⟨w.heap.size, 0, none⟩) (by simp)).trans (by go_simp)
  simp only [World.size_alloc] at hz1
  have B1 : Below w.heap.size w w1 := by repeat (first | exact Below.refl _ _ | assumption | refine Below.alloc ?_ (by first | (simp; done) | (simp; omega) | omega) _ | refine Below.setCell ?_ (by first | (simp; done) | (simp; omega) | omega) _ | apply Below.drew | refine Below.trans ?_ (Below.mono (by assumption) (by first | (simp; done) | (simp; omega) | omega)))
  clear hb1 c
  go_wp2
  refine bodyPost_ret (v := .tuple #[.agg #[.pointer none], .int .i64 2]) (by simp only [results, Try.results28]; go_simp) rfl ?_
  exact ⟨rfl, B1.setCell (p := ⟨w.heap.size, 0, none⟩) (Nat.le_refl _) _⟩

set_option maxHeartbeats 1000000 in
theorem right_any (p A : Option Addr) (len cap : Nat) (w : World) :
    Calls Try.prog 29 #[.agg #[.pointer p], .slice A len cap] w fun e w' => e = .returned (.func (.func 42) #[] #[.pointer (some ⟨w.heap.size + 1, 0, none⟩), .pointer (some ⟨w.heap.size, 0, none⟩)]) ∧
      (w.alloc (.cells #[.pointer p] 58)).alloc (.cells #[.slice A len cap] 23) = w' := by
  go_enter Try.func29, Try.ntmps29
  go_wp2
  go_ret
  exact ⟨rfl, rfl⟩

set_option maxHeartbeats 4000000 in
/-- The steps of a log gone over, each with whether it is right. -/
theorem right_stops (n : Nat) (hn : 1 ≤ n) (g h m : Nat) (z : Nat → Int) (A : Option Addr) (len cap : Nat) (st : Nat → Nat → Int) (Bl Br n₀ : Nat) (w : World) (hlen : len ≤ 9223372036854775807) (hI : IsAr w g h m z) (hS : StOk w A len st)
    (hg : g < n₀) (hh : h < n₀) (hBl : Bl < n₀) (hBr : Br < n₀) (hn₀ : n₀ ≤ w.heap.size) (hA : 0 < len → ∃ bs os, A = some ⟨bs, os, none⟩ ∧ bs < n₀ ∧ bs ≠ h) (h2 : Bl ≠ h) (h3 : Br ≠ h)
    (cl : w.cell? ⟨Bl, 0, none⟩ = some (.slice A len cap)) (cr : w.cell? ⟨Br, 0, none⟩ = some (.pointer (some ⟨g, 0, none⟩))) :
    SeqX Fence.wide n Try.prog 42 #[.pointer (some ⟨Bl, 0, none⟩), .pointer (some ⟨Br, 0, none⟩)] (fun i : Nat => #[Value.int .i64 (i : Int), Value.bool (okS m z st i)]) (Below n₀) (fun ys => ys = List.range len) (fun pre => ∃ k, k ≤ len ∧ pre = List.range k) len h w := by
  intro l J Jx W hW hJ hJx hY h0
  have hI2 : IsAr W g h m z := hI.keep hW
  have cl2 : W.cell? ⟨Bl, 0, none⟩ = some (.slice A len cap) := (hW.cell (p := ⟨Bl, 0, none⟩) (Nat.lt_of_lt_of_le hBl hn₀)).trans cl
  have cr2 : W.cell? ⟨Br, 0, none⟩ = some (.pointer (some ⟨g, 0, none⟩)) := (hW.cell (p := ⟨Br, 0, none⟩) (Nat.lt_of_lt_of_le hBr hn₀)).trans cr
  have hsW : n₀ ≤ W.heap.size := Nat.le_trans hn₀ hW.size
  have HS := hide (hS.keep hW)
  have HI := hide hI2
  have CR := hide cr2
  clear hI hI2 hS cl cr cr2
  show CallsIn Fence.wide n Try.prog 42 #[.func (.yield l) #[] #[], .pointer (some ⟨Bl, 0, none⟩), .pointer (some ⟨Br, 0, none⟩)] W _
  refine callsIn_of_wp Try.func42 rfl trivial ?_ rfl
  simp only [Try.ntmps42, List.size_toArray, List.length_cons, List.length_nil, Nat.reduceAdd, Nat.reduceSub, Array.replicate_succ, Array.replicate_zero, List.push_toArray, List.append_toArray, List.nil_append, List.cons_append]
  refine wideScope ?_
  gi_wp2
  refine wpIn_label ?_
  gi_wp2
  gi_loopw [10] (fun i wr => ∃ k : Nat, k ≤ len ∧ i = .int .i64 k ∧ J (List.range k) wr ∧ Hid (IsAr wr g h m (aft m z st k)) ∧ KeptBut n₀ h W wr) (fun i _ => len - (intOf i).toNat)
  case atStart => exact ⟨0, Nat.zero_le _, rfl, h0, HI, KeptBut.refl _ _ _⟩
  case round =>
    obtain ⟨k, hk, rfl, hJs, HA, hnx⟩ := hrel
    have hsr : n₀ ≤ wr.heap.size := Nat.le_trans hsW hnx.1
    by_cases hlt : k < len
    · obtain ⟨bs, os, rfl, hbs, h1⟩ := hA (by omega)
      obtain ⟨b', o', e', _, hc⟩ := unhide HS (by omega)
      obtain ⟨rfl, rfl⟩ : bs = b' ∧ os = o' := by
        injection e' with e'
        injection e' with e1 e2 _
        exact ⟨e1, e2⟩
      obtain ⟨c0, c1, c2, c3, c4, c5⟩ := hc k hlt
      replace c0 := hnx.cell hbs h1 c0
      replace c1 := hnx.cell hbs h1 c1
      replace c2 := hnx.cell hbs h1 c2
      replace c3 := hnx.cell hbs h1 c3
      replace c4 := hnx.cell hbs h1 c4
      replace c5 := hnx.cell hbs h1 c5
      have cr3 := hnx.cell hBr h3 (unhide CR)
      have b0 : (0 : Int) ≤ (k : Int) := by omega
      have b1 : (k : Int) < (len : Int) := by omega
      have sBr : Br < wr.heap.size := by omega
      have sBr2 : Br ≤ wr.heap.size := by omega
      clear hc e'
      obtain ⟨W1, hW1⟩ : ∃ W1, W1 = wr.alloc (.cells #[.int .i64 (st k 0), .int .i64 (st k 1), .int .i64 (st k 2), .int .u64 (st k 3), .int .u64 (st k 4), .int .u64 (st k 5)] 47) := ⟨_, rfl⟩
      have hB1 : Below wr.heap.size wr W1 := by rw [hW1]; repeat (first | exact Below.refl _ _ | assumption | refine Below.alloc ?_ (by first | (simp; done) | (simp; omega) | omega) _ | refine Below.setCell ?_ (by first | (simp; done) | (simp; omega) | omega) _ | apply Below.drew | refine Below.trans ?_ (Below.mono (by assumption) (by first | (simp; done) | (simp; omega) | omega)))
      have hs1 : W1.heap.size = wr.heap.size + 1 := by rw [hW1]; simp
      have x5 : W1.cell? ⟨wr.heap.size, 5, none⟩ = some (.int .u64 (st k 5)) := by rw [hW1]; go_simp
      have HA1 := hide ((unhide HA).keep hB1)
      have hJ1 : J (List.range k) W1 := hJ _ _ _ none hJs (grown_below hB1 none) (by intro r e; cases e)
      have hbne : wr.heap.size ≠ h := by omega
      have H1 := hide hW1
      clear hW1
      gi_wp2
      rw [← unhide H1]
      refine ⟨trivial, ?_⟩
      refine (callsIn_wide.2 (do_any g h m (aft m z st k) (st k 1) (st k 2) (st k 3) (st k 4) W1 (unhide HA1))).mono ?_
      rintro e w2 ⟨rfl, hg2, hA2⟩
      have HA2 := hide hA2
      have hJ2 : J (List.range k) w2 := hJ _ _ _ (some h) hJ1 hg2 (by intro r e; cases e; rfl)
      have hk2 : KeptBut (wr.heap.size + 1) h W1 w2 := KeptBut.grown hg2 (by omega)
      have x5' := hk2.cell (b := wr.heap.size) (by omega) hbne x5
      have hkk : KeptBut n₀ h W w2 := hnx.trans ((KeptBut.below hB1 hsr).trans (KeptBut.grown hg2 (by omega)))
      obtain ⟨fn, tmps, assign, body, hy, hR⟩ := hY (List.range k) k w2 hJ2 (by simpa using hlt)
      have hok : okS m z st k = (decide (doE m (st k 1) (st k 2) (st k 3) (st k 4) = 0) && decide (doA m (aft m z st k) (st k 1) (st k 2) (st k 3) (st k 4) = st k 5)) := rfl
      have hfin : ∀ W3, Below n₀ w2 W3 → IsAr W3 g h m (aft m z st (k + 1)) ∧ KeptBut n₀ h W W3 := fun W3 hb => ⟨(unhide HA2).keepAt hb hg hh, hkk.trans (KeptBut.below hb (Nat.le_refl _))⟩
      have HF := hide hfin
      clear x5 HA HA1 hJ1 hJs hg2 hA2 hfin hkk hk2 c0 c1 c2 c3 c4 c5 cr3 hB1
      generalize doE m (st k 1) (st k 2) (st k 3) (st k 4) = E at hok
      generalize doA m (aft m z st k) (st k 1) (st k 2) (st k 3) (st k 4) = D at hok
      have hthree : ((E == 0) = true ∧ (D == st k 5) = true ∧ okS m z st k = true) ∨ ((E == 0) = true ∧ (D == st k 5) = false ∧ okS m z st k = false) ∨ ((E == 0) = false ∧ True ∧ okS m z st k = false) := by
        by_cases hE : E = 0
        · by_cases hD : D = st k 5
          · exact .inl ⟨by simpa using hE, by simpa using hD, by rw [hok]; simp [hE, hD]⟩
          · exact .inr (.inl ⟨by simpa using hE, by simpa using hD, by rw [hok]; simp [hD]⟩)
        · exact .inr (.inr ⟨by simpa using hE, trivial, by rw [hok]; simp [hE]⟩)
      clear hok
      rcases hthree with ⟨h4, h5, h6⟩ | ⟨h4, h5, h6⟩ | ⟨h4, h5, h6⟩
      all_goals
        rw [h6] at hy
        clear h6
        gi_wp2
        refine hR.mono ?_
        rintro e W3 (⟨rfl, hJ3, hk3⟩ | ⟨rfl, hJx3⟩)
        · gi_wp2
          go_roundw
          case rel => exact ⟨k + 1, by omega, by go_num, by rw [List.range_succ]; exact hJ3, hide ((unhide HF W3 hk3).1), (unhide HF W3 hk3).2⟩
          case measure => simp [intOf]; omega
        · gi_wp2
          (try simp only [Exit.noGoto])
          go_end0
          exact ⟨⟨_, rfl⟩, .inr ⟨_, ⟨k + 1, by omega, List.range_succ.symm⟩, hJx3⟩⟩
    · obtain rfl : k = len := by omega
      gi_wp2
      (try simp only [Exit.noGoto])
      go_end0
      exact ⟨⟨_, rfl⟩, .inl ⟨_, rfl, hJs⟩⟩
end Go.Proofs.Ytdkpadiaikfdpaa
