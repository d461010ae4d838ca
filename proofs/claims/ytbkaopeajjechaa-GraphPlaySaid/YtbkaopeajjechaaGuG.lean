/- Several graphs side by side: what View, Words, Made and Same tell of them. -/
import Derived.Test.YtbkaopeajjechaaGuD
import Derived.Test.YtbkaopeajjechaaGuF
namespace Go.Proofs.Ytbkaopeajjechaa
set_option linter.unusedVariables false
set_option linter.unusedSimpArgs false
open Go.RowKit Go.Maps

section
variable {T : Nat} {sp : Int} {len : Nat} {S : Nat → ByteArray} {w w1 : World} {m : Nat} {gf : Nat → Nat} {Gf : Nat → Gr} {l : List (Nat × Obj)}

theorem st_view (h : St T sp len S w w1 m gf Gf l) {i g : Nat} (hi : i < m) (hg : gf i = g) (hn : (Gf i).n ≤ 1000000) :
    Calls Try.prog 20 #[.pointer (some ⟨g, 0, none⟩)] w1 fun e w' => ∃ v, e = .returned v ∧ RdVw w' v ((Gf i).view T S) ∧ Below w1.heap.size w1 w' ∧ St T sp len S w w' m gf Gf l := by
  obtain ⟨L, hL, hG⟩ := h.isG hi
  rw [← hg, ← hL]
  refine (view_any hG hn).mono ?_
  rintro e w' ⟨v, h1, h2, h3⟩
  exact ⟨v, h1, h2, h3, h.below h3⟩

theorem st_words (h : St T sp len S w w1 m gf Gf l) {i g : Nat} (hi : i < m) (hg : gf i = g) (hn : (Gf i).n ≤ 1000000) :
    Calls Try.prog 22 #[.pointer (some ⟨g, 0, none⟩)] w1 fun e w' => e = .returned (.int .i64 (wordsOf S (Gf i) ((Gf i).reach T S) : Nat)) ∧ Below w1.heap.size w1 w' ∧ St T sp len S w w' m gf Gf l := by
  obtain ⟨L, hL, hG⟩ := h.isG hi
  rw [← hg, ← hL]
  refine (words_any hG hn (fun k hk => (hG.ok.tab.2.2 k hk).1) hG.ok.tab.2.1).mono ?_
  rintro e w' ⟨h1, h3⟩
  exact ⟨h1, h3, h.below h3⟩

theorem st_made (h : St T sp len S w w1 m gf Gf l) {i g : Nat} (hi : i < m) (hg : gf i = g) :
    Calls Try.prog 24 #[.pointer (some ⟨g, 0, none⟩)] w1 fun e w' => e = .returned (.int .i64 ((Gf i).n : Nat)) ∧ w1 = w' := by
  obtain ⟨L, hL, hG⟩ := h.isG hi
  rw [← hg, ← hL]
  exact made_g hG

theorem st_same (h : St T sp len S w w1 m gf Gf l) {i k g g2 : Nat} (hi : i < m) (hk : k < m) (hg : gf i = g) (hg2 : gf k = g2) (hn : (Gf i).n ≤ 1000000) (hn2 : (Gf k).n ≤ 1000000) (D : Bool) (hD : D = true ↔ (Gf i).view T S = (Gf k).view T S) :
    Calls Try.prog 26 #[.pointer (some ⟨g, 0, none⟩), .pointer (some ⟨g2, 0, none⟩)] w1 fun e w' => e = .returned (.bool D) ∧ Below w1.heap.size w1 w' ∧ St T sp len S w w' m gf Gf l := by
  obtain ⟨Lf, h2⟩ := id h
  rw [← hg, ← hg2, ← h2.adr i hi, ← h2.adr k hk]
  refine (same_any (h2.g i hi) (h2.g k hk) hn hn2 (h2.sh i k hi hk) D hD).mono ?_
  rintro e w' ⟨h1, h3⟩
  exact ⟨h1, h3, h.below h3⟩
end

/-- Operations of slots alone. -/
def slB (z : Nat → Int) : Bool := decide (z 0 = 8 ∨ z 0 = 9 ∨ z 0 = 10)

set_option maxHeartbeats 2000000 in
theorem slots_any (z : Nat → Int) (w : World) : Calls Try.prog 27 #[opV z] w fun e w' => e = .returned (.bool (slB z)) ∧ Below w.heap.size w w' := by
  have hb := hide (show slB z = true ↔ (z 0 = 8 ∨ z 0 = 9 ∨ z 0 = 10) by unfold slB; simp)
  generalize slB z = b at *
  by_cases h8 : z 0 = 8
  · obtain rfl : b = true := (unhide hb).2 (.inl h8)
    have e8 : (z 0 == 8) = true := by simpa using h8
    clear h8 hb
    go_enter Try.func27, Try.ntmps27
    go_wp2
    go_ret
    exact ⟨rfl, by repeat (first | exact Below.refl _ _ | assumption | refine Below.alloc ?_ (by first | (simp; done) | (simp; omega) | omega) _ | refine Below.setCell ?_ (by first | (simp; done) | (simp; omega) | omega) _ | apply Below.drew | refine Below.trans ?_ (Below.mono (by assumption) (by first | (simp; done) | (simp; omega) | omega)))⟩
  · have e8 : (z 0 == 8) = false := by simpa using h8
    by_cases h9 : z 0 = 9
    · obtain rfl : b = true := (unhide hb).2 (.inr (.inl h9))
      have e9 : (z 0 == 9) = true := by simpa using h9
      clear h8 h9 hb
      go_enter Try.func27, Try.ntmps27
      go_wp2
      go_ret
      exact ⟨rfl, by repeat (first | exact Below.refl _ _ | assumption | refine Below.alloc ?_ (by first | (simp; done) | (simp; omega) | omega) _ | refine Below.setCell ?_ (by first | (simp; done) | (simp; omega) | omega) _ | apply Below.drew | refine Below.trans ?_ (Below.mono (by assumption) (by first | (simp; done) | (simp; omega) | omega)))⟩
    · have e9 : (z 0 == 9) = false := by simpa using h9
      have e10 : (z 0 == 10) = b := by
        rw [Bool.eq_iff_iff, unhide hb]
        simp [h8, h9]
      clear h8 h9 hb
      go_enter Try.func27, Try.ntmps27
      go_wp2
      go_ret
      exact ⟨rfl, by repeat (first | exact Below.refl _ _ | assumption | refine Below.alloc ?_ (by first | (simp; done) | (simp; omega) | omega) _ | refine Below.setCell ?_ (by first | (simp; done) | (simp; omega) | omega) _ | apply Below.drew | refine Below.trans ?_ (Below.mono (by assumption) (by first | (simp; done) | (simp; omega) | omega)))⟩
end Go.Proofs.Ytbkaopeajjechaa
