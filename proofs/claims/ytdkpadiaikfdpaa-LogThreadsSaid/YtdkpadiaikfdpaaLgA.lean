/- The walks of package log: which steps store; the places of things that are so. -/
import Derived.Test.YtdkpadiaikfdpaaProg
import Derived.Test.YtdkpadiaikfdpaaLk
import Derived.Test.YtdkpadiaikfdpaaRw
import Derived.Laws.EntriesVeiled
import Derived.Outline
namespace Go.Proofs.Ytdkpadiaikfdpaa
set_option linter.unusedVariables false
set_option linter.unusedSimpArgs false
open Go.RowKit

/-- The steps lie in memory. -/
def StOk (w : World) (A : Option Addr) (len : Nat) (st : Nat → Nat → Int) : Prop :=
  0 < len → ∃ b o, A = some ⟨b, o, none⟩ ∧ b < w.heap.size ∧ ∀ i, i < len →
    w.cell? ⟨b, o + i * 6, none⟩ = some (.int .i64 (st i 0)) ∧ w.cell? ⟨b, o + i * 6 + 1, none⟩ = some (.int .i64 (st i 1)) ∧ w.cell? ⟨b, o + i * 6 + 2, none⟩ = some (.int .i64 (st i 2)) ∧
    w.cell? ⟨b, o + i * 6 + 3, none⟩ = some (.int .u64 (st i 3)) ∧ w.cell? ⟨b, o + i * 6 + 4, none⟩ = some (.int .u64 (st i 4)) ∧ w.cell? ⟨b, o + i * 6 + 5, none⟩ = some (.int .u64 (st i 5))

theorem StOk.keep {w W : World} {A : Option Addr} {len : Nat} {st : Nat → Nat → Int} (H : StOk w A len st) (hb : Below w.heap.size w W) : StOk W A len st := fun h => by
  obtain ⟨b, o, hA, hl, hc⟩ := H h
  refine ⟨b, o, hA, Nat.lt_of_lt_of_le hl hb.size, fun i hi => ?_⟩
  obtain ⟨c0, c1, c2, c3, c4, c5⟩ := hc i hi
  exact ⟨(hb.cell (p := ⟨b, o + i * 6, none⟩) hl).trans c0, (hb.cell (p := ⟨b, o + i * 6 + 1, none⟩) hl).trans c1, (hb.cell (p := ⟨b, o + i * 6 + 2, none⟩) hl).trans c2, (hb.cell (p := ⟨b, o + i * 6 + 3, none⟩) hl).trans c3,
    (hb.cell (p := ⟨b, o + i * 6 + 4, none⟩) hl).trans c4, (hb.cell (p := ⟨b, o + i * 6 + 5, none⟩) hl).trans c5⟩

/-- Does a step store its word? -/
def stoB (k o an : Int) : Bool := decide (k = 2 ∨ k = 3 ∧ an = o)

theorem stores_any (t k a o v an : Int) (w : World) :
    Calls Try.prog 34 #[.agg #[.int .i64 t, .int .i64 k, .int .i64 a, .int .u64 o, .int .u64 v, .int .u64 an]] w fun e w' => e = .returned (.bool (stoB k o an)) ∧ Below w.heap.size w w' := by
  by_cases h2 : k = 2
  · subst h2
    go_enter Try.func34, Try.ntmps34
    go_wp2
    go_ret
    exact ⟨ret_bool (by simp [stoB]), by repeat (first | exact Below.refl _ _ | assumption | refine Below.alloc ?_ (by first | (simp; done) | (simp; omega) | omega) _ | refine Below.setCell ?_ (by first | (simp; done) | (simp; omega) | omega) _ | apply Below.drew | refine Below.trans ?_ (Below.mono (by assumption) (by first | (simp; done) | (simp; omega) | omega)))⟩
  · have h2b : (k == 2) = false := by simpa using h2
    by_cases h3 : k = 3
    · subst h3
      go_enter Try.func34, Try.ntmps34
      go_wp2
      all_goals go_ret
      all_goals exact ⟨ret_bool (by simp [stoB, Bool.beq_eq_decide_eq]), by repeat (first | exact Below.refl _ _ | assumption | refine Below.alloc ?_ (by first | (simp; done) | (simp; omega) | omega) _ | refine Below.setCell ?_ (by first | (simp; done) | (simp; omega) | omega) _ | apply Below.drew | refine Below.trans ?_ (Below.mono (by assumption) (by first | (simp; done) | (simp; omega) | omega)))⟩
    · have h3b : (k == 3) = false := by simpa using h3
      go_enter Try.func34, Try.ntmps34
      go_wp2
      go_ret
      exact ⟨ret_bool (by simp [stoB, h2, h3]), by repeat (first | exact Below.refl _ _ | assumption | refine Below.alloc ?_ (by first | (simp; done) | (simp; omega) | omega) _ | refine Below.setCell ?_ (by first | (simp; done) | (simp; omega) | omega) _ | apply Below.drew | refine Below.trans ?_ (Below.mono (by assumption) (by first | (simp; done) | (simp; omega) | omega)))⟩

/-- The places, below n, at which it is so. -/
def plc (p : Nat → Bool) : Nat → List Int
  | 0 => []
  | n + 1 => if p n then plc p n ++ [(n : Int)] else plc p n

theorem plc_len (p : Nat → Bool) : ∀ n, (plc p n).length ≤ n
  | 0 => Nat.le_refl _
  | n + 1 => by
    have := plc_len p n
    unfold plc
    split <;> simp <;> omega

theorem info_int13 : (Try.prog.info? 3).map (fun i => (i.zero, i.size, i.bytes)) = some (some (.int .i64 0), 1, 8) := by kernel_rfl

set_option maxHeartbeats 4000000 in
theorem places_of (q : Nat) (A : Option Addr) (len cap : Nat) (st : Nat → Nat → Int) (p : Nat → Bool) (hlen : len ≤ 1000) (w : World) (H : StOk w A len st)
    (HF : ∀ W i, i < len → Below w.heap.size w W → Calls Try.prog 39 (#[.agg #[.int .i64 (st i 0), .int .i64 (st i 1), .int .i64 (st i 2), .int .u64 (st i 3), .int .u64 (st i 4), .int .u64 (st i 5)], .pointer (some ⟨q, 0, none⟩)]) W fun e w' => e = .returned (.bool (p i)) ∧ Below W.heap.size W w') :
    Calls Try.prog 36 #[.slice A len cap, .func (.func 39) #[] #[.pointer (some ⟨q, 0, none⟩)]] w fun e w' => ∃ v, e = .returned v ∧ w'.ownsRow w.heap.size 3 1 v (plc p len).length ((plc p len).map (.int .i64)) ∧ Below w.heap.size w w' := by
  have HH := hide H
  have HC := hide HF
  clear H HF
  obtain ⟨i0, hi, hz0, hz1, hz2⟩ := info_parts info_int13
  go_enter Try.func36, Try.ntmps36
  go_wp2
  go_loopw [5, 10] (fun v i wr => ∃ k : Nat, k ≤ len ∧ i = .int .i64 k ∧ Hid (wr.ownsRow w.heap.size 3 1 v (plc p k).length ((plc p k).map (.int .i64))) ∧ Below w.heap.size w wr) (fun _ i _ => len - (intOf i).toNat)
  case atStart => exact ⟨0, Nat.zero_le _, rfl, hide (World.ownsRow_nil _ _ _ _), Below.refl _ _⟩
  case round =>
    obtain ⟨k, hk, rfl, HO, hB⟩ := hrel
    by_cases hlt : k < len
    · obtain ⟨b, o, rfl, hb, hc⟩ := (unhide HH).keep hB (by omega)
      obtain ⟨c0, c1, c2, c3, c4, c5⟩ := hc k hlt
      have b0 : (0 : Int) ≤ (k : Int) := by omega
      have b1 : (k : Int) < (len : Int) := by omega
      have hsz := hB.size
      have hl := plc_len p k
      clear hc
      go_wp2_with fail
      refine (unhide HC _ k hlt (hB.alloc hsz _)).mono ?_
      rintro e w2 ⟨rfl, hb2⟩
      have hz2' := hb2.size
      simp only [World.size_alloc] at hz2'
      have HO2 := hide (ownsRow_below ((unhide HO).alloc (.cells #[.int .i64 (st k 0), .int .i64 (st k 1), .int .i64 (st k 2), .int .u64 (st k 3), .int .u64 (st k 4), .int .u64 (st k 5)] 47)) hb2)
      have hB2 : Below w.heap.size w w2 := (hB.alloc hsz _).trans (hb2.mono (by simp; omega))
      clear hb2
      cases hp : p k with
      | false =>
        go_wp2
        go_roundw
        case measure => simp [intOf]; omega
        case rel => exact ⟨k + 1, by omega, by go_num, hide (by rw [plc, hp, if_neg (by simp)]; exact unhide HO2), hB2⟩
      | true =>
        go_wp2_with (at_builtin; refine wpList_append_own _ rfl (.tmp 18) (.tmp 20) _ rfl w.heap.size 3 i0 (.int .i64 0) 1 8 Try.underlying31 hi hz0 hz1 hz2 rfl (by decide) _ _ _ rfl ((unhide HO2).alloc _) ⟨w2.heap.size, 0, none⟩ 1 1 [.int .i64 (k : Int)] rfl rfl ?c1 ?c2 ?c3 ?c4 ?c5 ?_)
        case c1 => exact one_new _ _ _
        case c2 => simp [Value.oneCell']
        case c3 => simp only [maxLen]; omega
        case c4 => omega
        case c5 => simp; omega
        intro v' w3 hown' hgrow _
        have HO' := hide hown'
        have HG' := hide hgrow
        clear hown' hgrow
        go_wp2
        go_roundw
        case measure => simp [intOf]; omega
        case rel => exact ⟨k + 1, by omega, by go_num, hide (by rw [plc, hp, if_pos rfl]; simpa using unhide HO'), (hB2.alloc (by omega) _).grown (unhide HG') (by simp; omega) (fun r hr => ((unhide HO2).lt r hr).1)⟩
    · obtain rfl : k = len := by omega
      go_wp2
      go_ret
      exact ⟨_, rfl, unhide HO, hB⟩
set_option maxHeartbeats 4000000 in
theorem places_touches (q : Nat) (A : Option Addr) (len cap : Nat) (st : Nat → Nat → Int) (p : Nat → Bool) (hlen : len ≤ 1000) (w : World) (H : StOk w A len st)
    (HF : ∀ W i, i < len → Below w.heap.size w W → Calls Try.prog 40 (#[.agg #[.int .i64 (st i 0), .int .i64 (st i 1), .int .i64 (st i 2), .int .u64 (st i 3), .int .u64 (st i 4), .int .u64 (st i 5)], .pointer (some ⟨q, 0, none⟩)]) W fun e w' => e = .returned (.bool (p i)) ∧ Below W.heap.size W w') :
    Calls Try.prog 36 #[.slice A len cap, .func (.func 40) #[] #[.pointer (some ⟨q, 0, none⟩)]] w fun e w' => ∃ v, e = .returned v ∧ w'.ownsRow w.heap.size 3 1 v (plc p len).length ((plc p len).map (.int .i64)) ∧ Below w.heap.size w w' := by
  have HH := hide H
  have HC := hide HF
  clear H HF
  obtain ⟨i0, hi, hz0, hz1, hz2⟩ := info_parts info_int13
  go_enter Try.func36, Try.ntmps36
  go_wp2
  go_loopw [5, 10] (fun v i wr => ∃ k : Nat, k ≤ len ∧ i = .int .i64 k ∧ Hid (wr.ownsRow w.heap.size 3 1 v (plc p k).length ((plc p k).map (.int .i64))) ∧ Below w.heap.size w wr) (fun _ i _ => len - (intOf i).toNat)
  case atStart => exact ⟨0, Nat.zero_le _, rfl, hide (World.ownsRow_nil _ _ _ _), Below.refl _ _⟩
  case round =>
    obtain ⟨k, hk, rfl, HO, hB⟩ := hrel
    by_cases hlt : k < len
    · obtain ⟨b, o, rfl, hb, hc⟩ := (unhide HH).keep hB (by omega)
      obtain ⟨c0, c1, c2, c3, c4, c5⟩ := hc k hlt
      have b0 : (0 : Int) ≤ (k : Int) := by omega
      have b1 : (k : Int) < (len : Int) := by omega
      have hsz := hB.size
      have hl := plc_len p k
      clear hc
      go_wp2_with fail
      refine (unhide HC _ k hlt (hB.alloc hsz _)).mono ?_
      rintro e w2 ⟨rfl, hb2⟩
      have hz2' := hb2.size
      simp only [World.size_alloc] at hz2'
      have HO2 := hide (ownsRow_below ((unhide HO).alloc (.cells #[.int .i64 (st k 0), .int .i64 (st k 1), .int .i64 (st k 2), .int .u64 (st k 3), .int .u64 (st k 4), .int .u64 (st k 5)] 47)) hb2)
      have hB2 : Below w.heap.size w w2 := (hB.alloc hsz _).trans (hb2.mono (by simp; omega))
      clear hb2
      cases hp : p k with
      | false =>
        go_wp2
        go_roundw
        case measure => simp [intOf]; omega
        case rel => exact ⟨k + 1, by omega, by go_num, hide (by rw [plc, hp, if_neg (by simp)]; exact unhide HO2), hB2⟩
      | true =>
        go_wp2_with (at_builtin; refine wpList_append_own _ rfl (.tmp 18) (.tmp 20) _ rfl w.heap.size 3 i0 (.int .i64 0) 1 8 Try.underlying31 hi hz0 hz1 hz2 rfl (by decide) _ _ _ rfl ((unhide HO2).alloc _) ⟨w2.heap.size, 0, none⟩ 1 1 [.int .i64 (k : Int)] rfl rfl ?c1 ?c2 ?c3 ?c4 ?c5 ?_)
        case c1 => exact one_new _ _ _
        case c2 => simp [Value.oneCell']
        case c3 => simp only [maxLen]; omega
        case c4 => omega
        case c5 => simp; omega
        intro v' w3 hown' hgrow _
        have HO' := hide hown'
        have HG' := hide hgrow
        clear hown' hgrow
        go_wp2
        go_roundw
        case measure => simp [intOf]; omega
        case rel => exact ⟨k + 1, by omega, by go_num, hide (by rw [plc, hp, if_pos rfl]; simpa using unhide HO'), (hB2.alloc (by omega) _).grown (unhide HG') (by simp; omega) (fun r hr => ((unhide HO2).lt r hr).1)⟩
    · obtain rfl : k = len := by omega
      go_wp2
      go_ret
      exact ⟨_, rfl, unhide HO, hB⟩
set_option maxHeartbeats 4000000 in
theorem places_last (q : Nat) (A : Option Addr) (len cap : Nat) (st : Nat → Nat → Int) (p : Nat → Bool) (hlen : len ≤ 1000) (w : World) (H : StOk w A len st)
    (HF : ∀ W i, i < len → Below w.heap.size w W → Calls Try.prog 37 (#[.agg #[.int .i64 (st i 0), .int .i64 (st i 1), .int .i64 (st i 2), .int .u64 (st i 3), .int .u64 (st i 4), .int .u64 (st i 5)], .pointer (some ⟨q, 0, none⟩)]) W fun e w' => e = .returned (.bool (p i)) ∧ Below W.heap.size W w') :
    Calls Try.prog 36 #[.slice A len cap, .func (.func 37) #[] #[.pointer (some ⟨q, 0, none⟩)]] w fun e w' => ∃ v, e = .returned v ∧ w'.ownsRow w.heap.size 3 1 v (plc p len).length ((plc p len).map (.int .i64)) ∧ Below w.heap.size w w' := by
  have HH := hide H
  have HC := hide HF
  clear H HF
  obtain ⟨i0, hi, hz0, hz1, hz2⟩ := info_parts info_int13
  go_enter Try.func36, Try.ntmps36
  go_wp2
  go_loopw [5, 10] (fun v i wr => ∃ k : Nat, k ≤ len ∧ i = .int .i64 k ∧ Hid (wr.ownsRow w.heap.size 3 1 v (plc p k).length ((plc p k).map (.int .i64))) ∧ Below w.heap.size w wr) (fun _ i _ => len - (intOf i).toNat)
  case atStart => exact ⟨0, Nat.zero_le _, rfl, hide (World.ownsRow_nil _ _ _ _), Below.refl _ _⟩
  case round =>
    obtain ⟨k, hk, rfl, HO, hB⟩ := hrel
    by_cases hlt : k < len
    · obtain ⟨b, o, rfl, hb, hc⟩ := (unhide HH).keep hB (by omega)
      obtain ⟨c0, c1, c2, c3, c4, c5⟩ := hc k hlt
      have b0 : (0 : Int) ≤ (k : Int) := by omega
      have b1 : (k : Int) < (len : Int) := by omega
      have hsz := hB.size
      have hl := plc_len p k
      clear hc
      go_wp2_with fail
      refine (unhide HC _ k hlt (hB.alloc hsz _)).mono ?_
      rintro e w2 ⟨rfl, hb2⟩
      have hz2' := hb2.size
      simp only [World.size_alloc] at hz2'
      have HO2 := hide (ownsRow_below ((unhide HO).alloc (.cells #[.int .i64 (st k 0), .int .i64 (st k 1), .int .i64 (st k 2), .int .u64 (st k 3), .int .u64 (st k 4), .int .u64 (st k 5)] 47)) hb2)
      have hB2 : Below w.heap.size w w2 := (hB.alloc hsz _).trans (hb2.mono (by simp; omega))
      clear hb2
      cases hp : p k with
      | false =>
        go_wp2
        go_roundw
        case measure => simp [intOf]; omega
        case rel => exact ⟨k + 1, by omega, by go_num, hide (by rw [plc, hp, if_neg (by simp)]; exact unhide HO2), hB2⟩
      | true =>
        go_wp2_with (at_builtin; refine wpList_append_own _ rfl (.tmp 18) (.tmp 20) _ rfl w.heap.size 3 i0 (.int .i64 0) 1 8 Try.underlying31 hi hz0 hz1 hz2 rfl (by decide) _ _ _ rfl ((unhide HO2).alloc _) ⟨w2.heap.size, 0, none⟩ 1 1 [.int .i64 (k : Int)] rfl rfl ?c1 ?c2 ?c3 ?c4 ?c5 ?_)
        case c1 => exact one_new _ _ _
        case c2 => simp [Value.oneCell']
        case c3 => simp only [maxLen]; omega
        case c4 => omega
        case c5 => simp; omega
        intro v' w3 hown' hgrow _
        have HO' := hide hown'
        have HG' := hide hgrow
        clear hown' hgrow
        go_wp2
        go_roundw
        case measure => simp [intOf]; omega
        case rel => exact ⟨k + 1, by omega, by go_num, hide (by rw [plc, hp, if_pos rfl]; simpa using unhide HO'), (hB2.alloc (by omega) _).grown (unhide HG') (by simp; omega) (fun r hr => ((unhide HO2).lt r hr).1)⟩
    · obtain rfl : k = len := by omega
      go_wp2
      go_ret
      exact ⟨_, rfl, unhide HO, hB⟩
end Go.Proofs.Ytdkpadiaikfdpaa
