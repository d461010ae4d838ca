/- The walk of the reference of package log: the first step that is not right, the words behind all, which steps change one. -/
import Derived.Test.YtdkpadiaikfdpaaLgI
import Derived.Test.YtdkpadiaikfdpaaLgB
import Derived.Test.YtdkpadiaikfdpaaArJ
import Derived.Test.YtdkpadiaikfdpaaArO
import Derived.Deep.AppendLies
namespace Go.Proofs.Ytdkpadiaikfdpaa
set_option linter.unusedVariables false
set_option linter.unusedSimpArgs false
open Go.RowKit

theorem chB_eq {m : Nat} {z : Nat → Int} {st : Nat → Nat → Int} {k : Nat} (h : okS m z st k = true) : eqTo (aft m z st (k + 1)) (aft m z st k) m = !chB m z st k := by
  show eqTo (doX m (aft m z st k) (st k 1) (st k 2) (st k 3) (st k 4)) (aft m z st k) m = _
  unfold okS at h
  unfold chB
  generalize aft m z st k = xs at *
  simp only [Bool.and_eq_true, decide_eq_true_eq] at h
  obtain ⟨hE, hD⟩ := h
  by_cases hs : st k 1 = 2 ∨ (st k 1 = 3 ∧ xs (st k 2).toNat = st k 3)
  · have hk : st k 1 ≠ 0 := by omega
    have hr : 0 ≤ st k 2 ∧ st k 2 < (m : Int) := by
      have hE' := hE
      unfold doE at hE'
      split at hE'
      · (try rw [if_neg hk] at hE')
        split at hE' <;> omega
      · omega
    have hX : doX m xs (st k 1) (st k 2) (st k 3) (st k 4) = upd xs (st k 2).toNat (st k 4) := by unfold doX; rw [if_pos ⟨hE, hs⟩]
    have hE1 : doE m 1 (st k 2) 0 0 = 0 := by
      unfold doE
      rw [if_pos (by simp [accB]), if_neg (by omega), if_neg (by omega)]
    have hA1 : doA m xs 1 (st k 2) 0 0 = xs (st k 2).toNat := by unfold doA; rw [if_pos ⟨hE1, .inl rfl⟩]
    have hst : stoB (st k 1) (st k 3) (st k 5) = true := by
      simp only [stoB, decide_eq_true_eq]
      rcases hs with h2 | ⟨h3, h4⟩
      · exact .inl h2
      · refine .inr ⟨h3, ?_⟩
        rw [← hD]
        unfold doA
        rw [if_pos ⟨hE, .inr h3⟩]
        exact h4
    rw [hX, hA1, hst, Bool.true_and]
    by_cases hv : st k 4 = xs (st k 2).toNat
    · rw [show (st k 4 != xs (st k 2).toNat) = false by simp [hv]]
      refine eqTo_iff.2 fun i _ => ?_
      unfold upd
      split
      · rename_i e
        rw [e, hv]
      · rfl
    · rw [show (st k 4 != xs (st k 2).toNat) = true by simpa using hv]
      exact eqTo_no (k := (st k 2).toNat) (by omega) (by simpa [upd] using hv)
  · have hX : doX m xs (st k 1) (st k 2) (st k 3) (st k 4) = xs := by unfold doX; rw [if_neg (fun h => hs h.2)]
    have hst : stoB (st k 1) (st k 3) (st k 5) = false := by
      simp only [stoB, decide_eq_false_iff_not]
      rintro (h2 | ⟨h3, h4⟩)
      · exact hs (.inl h2)
      · refine hs (.inr ⟨h3, ?_⟩)
        rw [← h4, ← hD]
        unfold doA
        rw [if_pos ⟨hE, .inr h3⟩]
    rw [hX, hst, Bool.false_and]
    exact eqTo_iff.2 fun _ _ => rfl

/-- What the reference's Wrong answers. -/
def RefWrongTo (w' : World) (m : Nat) (z : Nat → Int) (st : Nat → Nat → Int) (len : Nat) (e : Ending) : Prop :=
  (∃ k, k < len ∧ okS m z st k = false ∧ (∀ i, i < k → okS m z st i = true) ∧ ∃ u v, e = .returned (.tuple #[.int .i64 (k : Int), u, v])) ∨
  ((∀ i, i < len → okS m z st i = true) ∧ ∃ B off C A c, e = .returned (.tuple #[.int .i64 (-1), .slice (some ⟨B, off, none⟩) m C, .slice A (plc (chB m z st) len).length c]) ∧ B < w'.heap.size ∧
    (∀ i, i < m → w'.cell? ⟨B, off + i, none⟩ = some (.int .u64 (aft m z st len i))) ∧ RdL w' .i64 A (plc (chB m z st) len))

set_option maxRecDepth 100000 in
set_option maxHeartbeats 4000000 in
theorem refWrong_any (b o m cap : Nat) (z : Nat → Int) (hm1 : 1 ≤ m) (hm2 : m ≤ 16384) (A : Option Addr) (len cap2 : Nat) (st : Nat → Nat → Int) (hlen : len ≤ 1000) (w : World) (hb : b < w.heap.size)
    (hc : ∀ i, i < m → w.cell? ⟨b, o + i, none⟩ = some (.int .u64 (z i))) (hS : StOk w A len st) :
    Calls Try.prog 16 #[.slice (some ⟨b, o, none⟩) m cap, .slice A len cap2] w fun e w' => RefWrongTo w' m z st len e ∧ Below w.heap.size w w' := by
  have HS := hide hS
  have HC := hide hc
  clear hc hS
  obtain ⟨i0, hi, hz0, hz1, hz2⟩ := info_parts info_int13
  go_enter Try.func16, Try.ntmps16
  go_wp2
  go_loopw [0, 7, 8] (fun s v i wr => ∃ (k B off C : Nat), k ≤ len ∧ i = .int .i64 k ∧ s = .slice (some ⟨B, off, none⟩) m C ∧ Hid (wr.ownsRow w.heap.size 3 1 v (plc (chB m z st) k).length ((plc (chB m z st) k).map (.int .i64))) ∧ Below w.heap.size w wr ∧
      B < wr.heap.size ∧ (B < w.heap.size ∨ True) ∧ Hid (∀ i, i < m → wr.cell? ⟨B, off + i, none⟩ = some (.int .u64 (aft m z st k i))) ∧ Hid (∀ i, i < k → okS m z st i = true) ∧ Hid (v.ownBlock ≠ some B)) (fun _ _ i _ => len - (intOf i).toNat)
  case atStart => exact ⟨0, b, o, cap, Nat.zero_le _, rfl, rfl, hide (World.ownsRow_nil _ _ _ _), Below.refl _ _, hb, .inr trivial, HC, hide (fun i hi => absurd hi (by omega)), hide (by simp [Value.ownBlock])⟩
  case round =>
    obtain ⟨k, B, off, C, hk, rfl, rfl, HO, hB, hBs, _, HX, HOK, HNE⟩ := hrel
    have hsz := hB.size
    by_cases hlt : k < len
    · obtain ⟨bs, os, rfl, hbs, hc⟩ := (unhide HS).keep hB (by omega)
      obtain ⟨c0, c1, c2, c3, c4, c5⟩ := hc k hlt
      have b0 : (0 : Int) ≤ (k : Int) := by omega
      have b1 : (k : Int) < (len : Int) := by omega
      have hl := plc_len (chB m z st) k
      clear hc
      go_wp2_with fail
      refine (refDo_any B off m C (aft m z st k) hm1 hm2 (st k 1) (st k 2) (st k 3) (st k 4) wr hBs (unhide HX)).mono ?_
      rintro e w1 ⟨B1, off1, C1, rfl, hb1, hs1, hne1, hX1⟩
      have HX1 : Hid (∀ i, i < m → w1.cell? ⟨B1, off1 + i, none⟩ = some (.int .u64 (aft m z st (k + 1) i))) := hide hX1
      have HX0 := hide (fun i hi => (hb1.cell (p := ⟨B, off + i, none⟩) hBs).trans (unhide HX i hi) : ∀ i, i < m → w1.cell? ⟨B, off + i, none⟩ = some (.int .u64 (aft m z st k i)))
      have d5 := (hb1.cell (p := ⟨bs, os + k * 6 + 5, none⟩) hbs).trans c5
      have hob : ∀ r, u7.ownBlock = some r → r < wr.heap.size := fun r e => ((unhide HO).lt r e).2
      have HO1 := hide (ownsRow_below (unhide HO) hb1)
      have hB1 := hB.trans (hb1.mono hsz)
      have hz1' := hb1.size
      have hok : okS m z st k = (decide (doE m (st k 1) (st k 2) (st k 3) (st k 4) = 0) && decide (doA m (aft m z st k) (st k 1) (st k 2) (st k 3) (st k 4) = st k 5)) := rfl
      clear c0 c1 c2 c3 c4 c5 hX1 HX HO hb1
      generalize doE m (st k 1) (st k 2) (st k 3) (st k 4) = E at hok
      generalize doA m (aft m z st k) (st k 1) (st k 2) (st k 3) (st k 4) = D at hok
      have hthree : ((E != 0) = false ∧ (D != st k 5) = false ∧ okS m z st k = true) ∨ ((E != 0) = false ∧ (D != st k 5) = true ∧ okS m z st k = false) ∨ ((E != 0) = true ∧ True ∧ okS m z st k = false) := by
        by_cases hE : E = 0
        · by_cases hD : D = st k 5
          · exact .inl ⟨by simpa using hE, by simpa using hD, by rw [hok]; simp [hE, hD]⟩
          · exact .inr (.inl ⟨by simpa using hE, by simpa using hD, by rw [hok]; simp [hD]⟩)
        · exact .inr (.inr ⟨by simpa using hE, trivial, by rw [hok]; simp [hE]⟩)
      clear hok
      rcases hthree with ⟨h4, h5, h6⟩ | ⟨h4, h5, h6⟩ | ⟨h4, h5, h6⟩
      · have H6 := hide h6
        have hce := hide (chB_eq h6)
        have hsm := hide (refSame_any B1 off1 C1 B off C m (aft m z st (k + 1)) (aft m z st k) hm2 w1 (unhide HX1) (unhide HX0))
        clear h6
        cases hch : chB m z st k with
        | true =>
          have hsm2 := unhide hsm
          rw [unhide hce, hch] at hsm2
          have HSM := hide hsm2
          have HCH := hide hch
          clear hsm2 hsm hch hce
          go_wp2_with fail
          refine (unhide HSM).mono ?_
          rintro e w2 ⟨rfl, hb2⟩
          have HO2 := hide (ownsRow_below (unhide HO1) hb2)
          have hB2 := hB1.trans (hb2.mono hB1.size)
          have hz2' := hb2.size
          have hs22 := hB2.size
          have HX2 := hide (fun i hi => (hb2.cell (p := ⟨B1, off1 + i, none⟩) hs1).trans (unhide HX1 i hi) : ∀ i, i < m → w2.cell? ⟨B1, off1 + i, none⟩ = some (.int .u64 (aft m z st (k + 1) i)))
          clear hb2
          have hown1 : u7.ownBlock ≠ some B1 := by
            intro e
            rcases hne1 with rfl | h
            · exact unhide HNE e
            · have := ((unhide HO1).lt B1 e).2
              have := hob B1 e
              omega
          have HW1 := hide hown1
          clear hown1
          (go_wp2_with (at_builtin; refine wpList_append_lies _ rfl (.tmp 47) (.tmp 49) _ rfl w.heap.size 3 i0 (.int .i64 0) 1 8 Try.underlying31 hi hz0 hz1 hz2 rfl (by decide) _ _ _ rfl ((unhide HO2).alloc _) ⟨w2.heap.size, 0, none⟩ 1 1 [.int .i64 (k : Int)] rfl rfl ?c1 ?c2 (by decide) ?c3 ?c4 ?c5 _ rfl ?_)); (case c1 => exact one_new _ _ _); (case c2 => simp [Value.oneCell']); (case c3 => simp only [maxLen]; omega); (case c4 => omega); (case c5 => simp; omega); (intro g' cg w3 hown' hgrow hat' hlt'); (have HO' := hide hown'); (have HG' := hide hgrow); (have HAT := hide hat'); (clear hown' hgrow hat')
          have hbel : Below w.heap.size w w3 := (hB2.alloc hs22 _).grown (unhide HG') (by simp; omega) (fun r hr => ((unhide HO2).lt r hr).1)
          have hB1s : B1 < w2.heap.size := Nat.lt_of_lt_of_le hs1 hz2'
          have HX3 := hide (fun i hi => ((World.cell?_of_block (a := ⟨B1, off1 + i, none⟩) ((unhide HG').block B1 (by simp; omega) (fun e => unhide HW1 e.symm))).trans (World.cell?_alloc_lt _ _ _ hB1s)).trans (unhide HX2 i hi) : ∀ i, i < m → w3.cell? ⟨B1, off1 + i, none⟩ = some (.int .u64 (aft m z st (k + 1) i)))
          have hB3s : B1 < w3.heap.size := by have := (unhide HG').size; simp at this; omega
          have hNE3 : Hid ((Value.slice (some ⟨g', 0, none⟩) ((plc (chB m z st) k).length + 1) cg).ownBlock ≠ some B1) := hide (by
            intro e
            have e' : g' = B1 := by simpa [Value.ownBlock] using e
            rcases unhide HAT with h | h
            · exact unhide HW1 (by rw [h, e'])
            · (try simp at h); omega)
          clear HX2
          go_wp2
          go_roundw
          case measure => simp [intOf]; omega
          case rel => exact ⟨k + 1, B1, off1, C1, by omega, by go_num, rfl, hide (by rw [plc, unhide HCH, if_pos rfl]; simpa using unhide HO'), hbel, hB3s, .inr trivial, HX3, hide (fun i hi => by
            by_cases e : i = k
            · rw [e]; exact unhide H6
            · exact unhide HOK i (by omega)), hNE3⟩
        | false =>
          have hsm2 := unhide hsm
          rw [unhide hce, hch] at hsm2
          have HSM := hide hsm2
          have HCH := hide hch
          clear hsm2 hsm hch hce
          go_wp2_with fail
          refine (unhide HSM).mono ?_
          rintro e w2 ⟨rfl, hb2⟩
          have HO2 := hide (ownsRow_below (unhide HO1) hb2)
          have hB2 := hB1.trans (hb2.mono hB1.size)
          have HX2 := hide (fun i hi => (hb2.cell (p := ⟨B1, off1 + i, none⟩) hs1).trans (unhide HX1 i hi) : ∀ i, i < m → w2.cell? ⟨B1, off1 + i, none⟩ = some (.int .u64 (aft m z st (k + 1) i)))
          have hs2' : B1 < w2.heap.size := Nat.lt_of_lt_of_le hs1 hb2.size
          have HW1 : Hid (u7.ownBlock ≠ some B1) := hide (by
            intro e
            rcases hne1 with rfl | h
            · exact unhide HNE e
            · have := hob B1 e
              omega)
          clear hb2
          go_wp2
          go_roundw
          case measure => simp [intOf]; omega
          case rel => exact ⟨k + 1, B1, off1, C1, by omega, by go_num, rfl, hide (by rw [plc, unhide HCH, if_neg (by simp)]; exact unhide HO2), hB2, hs2', .inr trivial, HX2, hide (fun i hi => by
            by_cases e : i = k
            · rw [e]; exact unhide H6
            · exact unhide HOK i (by omega)), HW1⟩
      all_goals
        have H6 := hide h6
        clear h6
        go_wp2
        go_ret3
        exact ⟨.inl ⟨k, hlt, unhide H6, unhide HOK, _, _, rfl⟩, hB1⟩
    · obtain rfl : k = len := by omega
      obtain ⟨A', c', rfl, hr⟩ := RdL.of_own (unhide HO)
      have HR := hide hr
      clear hr
      go_wp2
      go_ret3
      exact ⟨.inr ⟨unhide HOK, B, off, C, A', c', rfl, hBs, unhide HX, unhide HR⟩, hB⟩
end Go.Proofs.Ytdkpadiaikfdpaa
