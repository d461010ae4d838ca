/- The laws of layer 14: arguments opened; few shapes; how many accesses are told. -/
import Derived.Test.YtnnllhlcpmmcaaaClR
import Derived.Test.YtnnllhlcpmmcaaaOp
namespace Go.Proofs.Ytnnllhlcpmmcaaa
set_option linter.unusedVariables false
set_option linter.unusedSimpArgs false
open Go.RowKit

def strV : Value → ByteArray
  | .string s => s
  | _ => ⟨#[]⟩

theorem ShOk.of_row {w : World} {n : Nat} {A : Option Addr} {len cap : Nat} (h : RowOk w n [.str] A len cap) : ∃ S, ShOk w A len S ∧ ∀ i, i < len → (S i).size ≤ maxLen := by
  obtain ⟨g, o, f, hA, hc⟩ := h.open_
  have hs : ∀ i, i < len → w.cell? ⟨g, o + i, none⟩ = some (.string (strV (f i 0))) ∧ (strV (f i 0)).size ≤ maxLen := fun i hi => by
    obtain ⟨h1, h0⟩ := hc i hi 0 .str rfl
    obtain ⟨s, h2, h3⟩ := Leaf.ok_str h0
    simp only [List.length_cons, List.length_nil, Nat.zero_add, Nat.mul_one, Nat.add_zero] at h1
    rw [h1, h2]
    exact ⟨rfl, h3⟩
  exact ⟨fun i => strV (f i 0), fun hl => ⟨g, o, (hA hl).1, (hA hl).2, fun i hi => (hs i hi).1⟩, fun i hi => (hs i hi).2⟩

/-- No more shapes than are looked at. -/
def fewP (len : Nat) (S : Nat → ByteArray) : Prop := len ≤ 20 ∧ ∀ i, i < len → (S i).size ≤ 20
open Classical in
noncomputable def fewB (len : Nat) (S : Nat → ByteArray) : Bool := decide (fewP len S)
theorem fewB_iff {len : Nat} {S : Nat → ByteArray} : fewB len S = true ↔ fewP len S := by unfold fewB; simp

set_option maxHeartbeats 2000000 in
theorem few14_any (t sp : Int) (A : Option Addr) (len cap : Nat) (S : Nat → ByteArray) (hlen : len ≤ 9223372036854775807) (w : World) (H : ShOk w A len S) (hS : ∀ i, i < len → (S i).size ≤ maxLen) :
    Calls Try.prog 9 #[.agg #[.int .i64 t, .int .i64 sp, .slice A len cap]] w fun e w' => e = .returned (.bool (fewB len S)) ∧ Below w.heap.size w w' := by
  by_cases h1 : 20 < len
  · have hr := hide (show fewB len S = false by rw [Bool.eq_false_iff, Ne, fewB_iff]; exact fun h => by have := h.1; omega)
    rw [unhide hr]
    go_enter Try.func9, Try.ntmps9
    go_wp2
    go_ret
    exact ⟨rfl, by repeat (first | exact Below.refl _ _ | assumption | refine Below.alloc ?_ (by first | (simp; done) | (simp; omega) | omega) _ | refine Below.setCell ?_ (by first | (simp; done) | (simp; omega) | omega) _ | apply Below.drew | refine Below.trans ?_ (Below.mono (by assumption) (by first | (simp; done) | (simp; omega) | omega)))⟩
  have h1b : len ≤ 20 := by omega
  have HC := hide (fun U (hU : Below w.heap.size w U) => H.keep hU)
  have HSz := hide hS
  have hy : Hid ((∀ i, i < len → (S i).size ≤ 20) → fewB len S = true) := hide (fun h => fewB_iff.2 ⟨h1b, h⟩)
  have hn : Hid (∀ i, i < len → 20 < (S i).size → fewB len S = false) := hide (fun i hi h => by
    rw [Bool.eq_false_iff, Ne, fewB_iff]
    exact fun hh => by have := hh.2 i hi; omega)
  generalize fewB len S = R at hy hn ⊢
  clear hS H
  go_enter Try.func9, Try.ntmps9
  go_wp2
  go_loopw [3] (fun i wr => ∃ k : Nat, k ≤ len ∧ i = .int .i64 k ∧ Hid (∀ j, j < k → (S j).size ≤ 20) ∧ wr = w.alloc (.cells #[.int .i64 t, .int .i64 sp, .slice A len cap] 24)) (fun i _ => len - (intOf i).toNat)
  case atStart => exact ⟨0, Nat.zero_le _, rfl, hide (fun j hj => by omega), rfl⟩
  case round =>
    obtain ⟨k, hk, rfl, HK, rfl⟩ := hrel
    by_cases hlt : k < len
    · obtain ⟨g, o, rfl, hg, hc⟩ := unhide HC w (Below.refl _ _) (by omega)
      have hcell : (w.alloc (.cells #[.int .i64 t, .int .i64 sp, .slice (some ⟨g, o, none⟩) len cap] 24)).cell? ⟨g, o + k, none⟩ = some (.string (S k)) := (World.cell?_alloc_lt _ _ _ hg).trans (hc k hlt)
      have hsz := unhide HSz k hlt
      unfold maxLen at hsz
      have b0 : (0 : Int) ≤ (k : Int) := by omega
      have b1 : (k : Int) < (len : Int) := by omega
      clear hc
      by_cases h2 : 20 < (S k).size
      · have hres := unhide hn k hlt h2
        subst hres
        go_wp2
        go_ret
        exact ⟨rfl, by repeat (first | exact Below.refl _ _ | assumption | refine Below.alloc ?_ (by first | (simp; done) | (simp; omega) | omega) _ | refine Below.setCell ?_ (by first | (simp; done) | (simp; omega) | omega) _ | apply Below.drew | refine Below.trans ?_ (Below.mono (by assumption) (by first | (simp; done) | (simp; omega) | omega)))⟩
      · have h3 : (S k).size ≤ 20 := by omega
        have HK2 : Hid (∀ j, j < k + 1 → (S j).size ≤ 20) := hide (fun j hj => by
          by_cases e : j = k
          · subst e; exact h3
          · exact unhide HK j (by omega))
        go_wp2
        go_roundw
        case measure => simp [intOf]; omega
        case rel => exact ⟨k + 1, by omega, by go_num, HK2, by trivial⟩
    · have hres := unhide hy (fun i hi => unhide HK i (by omega))
      subst hres
      go_wp2
      go_ret
      exact ⟨rfl, by repeat (first | exact Below.refl _ _ | assumption | refine Below.alloc ?_ (by first | (simp; done) | (simp; omega) | omega) _ | refine Below.setCell ?_ (by first | (simp; done) | (simp; omega) | omega) _ | apply Below.drew | refine Below.trans ?_ (Below.mono (by assumption) (by first | (simp; done) | (simp; omega) | omega)))⟩


theorem Bx.store {W : World} {b : Nat} {c : Nat → Value} (H : Bx W b c) (t sp : Int) (A : Option Addr) (len cap : Nat) (s n mo pl tr wa ga gg oe oa og : Int) :
    Bx ((((((((((((((W.setCell ⟨b, 0, none⟩ (.int .i64 t)).setCell ⟨b, 1, none⟩ (.int .i64 sp)).setCell ⟨b, 2, none⟩ (.slice A len cap)).setCell ⟨b, 3, none⟩ (.int .i64 s)).setCell ⟨b, 4, none⟩ (.int .i64 n)).setCell ⟨b, 5, none⟩ (.int .i64 mo)).setCell ⟨b, 6, none⟩ (.int .i64 pl)).setCell ⟨b, 7, none⟩ (.int .i64 tr)).setCell ⟨b, 8, none⟩ (.int .u64 wa)).setCell ⟨b, 9, none⟩ (.int .i64 ga)).setCell ⟨b, 10, none⟩ (.int .i64 gg)).setCell ⟨b, 11, none⟩ (.int .i64 oe)).setCell ⟨b, 12, none⟩ (.int .i64 oa)).setCell ⟨b, 13, none⟩ (.int .i64 og)) b (rcC t sp A len cap s n mo pl tr wa ga gg oe oa og) :=
  ((((((((((((((H.set (i := 0) (by omega) (.int .i64 t)).set (i := 1) (by omega) (.int .i64 sp)).set (i := 2) (by omega) (.slice A len cap)).set (i := 3) (by omega) (.int .i64 s)).set (i := 4) (by omega) (.int .i64 n)).set (i := 5) (by omega) (.int .i64 mo)).set (i := 6) (by omega) (.int .i64 pl)).set (i := 7) (by omega) (.int .i64 tr)).set (i := 8) (by omega) (.int .u64 wa)).set (i := 9) (by omega) (.int .i64 ga)).set (i := 10) (by omega) (.int .i64 gg)).set (i := 11) (by omega) (.int .i64 oe)).set (i := 12) (by omega) (.int .i64 oa)).set (i := 13) (by omega) (.int .i64 og)).congr (fun i hi => by
    have h : i = 0 ∨ i = 1 ∨ i = 2 ∨ i = 3 ∨ i = 4 ∨ i = 5 ∨ i = 6 ∨ i = 7 ∨ i = 8 ∨ i = 9 ∨ i = 10 ∨ i = 11 ∨ i = 12 ∨ i = 13 := by omega
    rcases h with rfl | rfl | rfl | rfl | rfl | rfl | rfl | rfl | rfl | rfl | rfl | rfl | rfl | rfl <;> rfl)
theorem Chg.store {S : Nat → Prop} {w W : World} (H : Chg S w W) {b : Nat} (hb : w.heap.size ≤ b ∨ S b) (v0 v1 v2 v3 v4 v5 v6 v7 v8 v9 v10 v11 v12 v13 : Value) : Chg S w ((((((((((((((W.setCell ⟨b, 0, none⟩ v0).setCell ⟨b, 1, none⟩ v1).setCell ⟨b, 2, none⟩ v2).setCell ⟨b, 3, none⟩ v3).setCell ⟨b, 4, none⟩ v4).setCell ⟨b, 5, none⟩ v5).setCell ⟨b, 6, none⟩ v6).setCell ⟨b, 7, none⟩ v7).setCell ⟨b, 8, none⟩ v8).setCell ⟨b, 9, none⟩ v9).setCell ⟨b, 10, none⟩ v10).setCell ⟨b, 11, none⟩ v11).setCell ⟨b, 12, none⟩ v12).setCell ⟨b, 13, none⟩ v13) :=
  (Chg.set (Chg.set (Chg.set (Chg.set (Chg.set (Chg.set (Chg.set (Chg.set (Chg.set (Chg.set (Chg.set (Chg.set (Chg.set (Chg.set H hb v0) hb v1) hb v2) hb v3) hb v4) hb v5) hb v6) hb v7) hb v8) hb v9) hb v10) hb v11) hb v12) hb v13)

/-- How many accesses were told. -/
def cnt (M : Mc) (c : Nat) : Prop := (M.pl = 1 → c = 0) ∧ (M.pl = 2 → c = 1) ∧ (M.pl = 3 → (c : Int) = 2 + M.tr) ∧ c ≤ 3

theorem cnt_new : cnt newMc 0 := by unfold cnt newMc; simp

theorem lookM_pl (q : Ask) (M : Mc) (x : Int) : ((lookM q M x).b = true ∧ (lookM q M x).M.pl = 3 ∧ (lookM q M x).M.tr = M.tr) ∨ ((lookM q M x).b = false ∧ (lookM q M x).M.pl = 4) := by
  unfold lookM
  split
  · exact .inr ⟨rfl, rfl⟩
  split
  · exact .inr ⟨rfl, rfl⟩
  split
  · exact .inr ⟨rfl, rfl⟩
  · exact .inl ⟨rfl, rfl, rfl⟩

theorem cnt_next (q : Ask) (M : Mc) (x : Int) (c : Nat) (hM : M.ok) (h : cnt M c) : cnt (nextM q M x).M (if (nextM q M x).b = true then c + 1 else c) := by
  obtain ⟨h1, h2, h3, h4⟩ := hM
  obtain ⟨c1, c2, c3, c4⟩ := h
  unfold nextM
  split
  · rename_i e
    have := c1 e
    have := h3 (.inl e)
    unfold cnt; simp; omega
  split
  · rename_i e
    have t0 := h3 (.inr e)
    have := c2 e
    rcases lookM_pl q M x with ⟨hb, hp, ht⟩ | ⟨hb, hp⟩
    · rw [hb, if_pos rfl]; unfold cnt; rw [hp, ht]; omega
    · rw [hb, if_neg (by simp)]; unfold cnt; rw [hp]; omega
  split
  · rename_i e
    have := c3 e
    have := h2 e
    split
    · unfold cnt endM; simp; omega
    split
    · unfold cnt endM; simp; omega
    · rcases lookM_pl q { M with tr := 1 } x with ⟨hb, hp, ht⟩ | ⟨hb, hp⟩
      · rw [hb, if_pos rfl]; unfold cnt; rw [hp, ht]; simp; omega
      · rw [hb, if_neg (by simp)]; unfold cnt; rw [hp]; omega
  · exact ⟨c1, c2, c3, by simpa using c4⟩
end Go.Proofs.Ytnnllhlcpmmcaaa
