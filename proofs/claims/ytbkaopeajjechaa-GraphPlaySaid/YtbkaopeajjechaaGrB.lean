/- The walks of package shape, further: kinds of fields. -/
import Derived.Test.YtbkaopeajjechaaGrA
import Derived.Deep.RegionHeld3
namespace Go.Proofs.Ytbkaopeajjechaa
set_option linter.unusedVariables false
set_option linter.unusedSimpArgs false
open Go.RowKit Go.Maps

set_option maxHeartbeats 2000000 in
set_option maxRecDepth 100000 in
theorem kind1_any (s : ByteArray) (j : Nat) (hj : j < s.size) (h8 : s.size ≤ 8) (a b : Nat) (w : World) (ha : a < w.heap.size) (hb : b < w.heap.size)
    (hca : w.cell? ⟨a, 0, none⟩ = some (.string s)) (hcb : w.cell? ⟨b, 0, none⟩ = some (.int .i64 j)) :
    Calls Try.prog 105 #[.pointer (some ⟨a, 0, none⟩), .pointer (some ⟨b, 0, none⟩)] w fun e w' => e = .returned (.int .i64 (kd s j)) ∧ Below w.heap.size w w' := by
  have hkd : kd s j = if (s[j]'hj).toNat = 115 then 1 else 0 := by
    unfold kd
    rw [show s.get! j = s[j]'hj by simp [ByteArray.get!, hj]; rfl]
  have H : Hid (∀ U c, LetV U c → (Instr.lookup 136 (.map (some c)) (.int .i32 (IntKind.i32.wrap (((s[j]'hj).toNat : Nat) : Int))) false).run Try.prog U = .ok (.int .i64 (kd s j)) U) := hide (fun U c hU => by
    have hlt := (s[j]'hj).toNat_lt
    have hw : IntKind.i32.wrap (((s[j]'hj).toNat : Nat) : Int) = (((s[j]'hj).toNat : Nat) : Int) := by
      rw [IntKind.wrap_i32]; omega
    have hwf : (Lit.int .i32 (((s[j]'hj).toNat : Nat) : Int)).wf = true := WalkArith.wf_i32 (by omega)
    rw [hw, hU U (Below.refl _ _) _ hwf, hkd]
    unfold ltV
    by_cases h : (s[j]'hj).toNat = 115
    · rw [if_pos h, if_pos (by omega)]
    · rw [if_neg h, if_neg (by omega)])
  clear hkd
  have b0 : (0 : Int) ≤ (j : Int) := by omega
  have b1 : (j : Int) < (s.size : Int) := by omega
  go_enter Try.func105, Try.ntmps105
  go_wp2
  go_region_held3 (fun W => Below w.heap.size w W ∧ W.cell? ⟨a, 0, none⟩ = some (.string s) ∧ W.cell? ⟨b, 0, none⟩ = some (.int .i64 j)) (((refine and_dep ?_ (fun hkq => ⟨(hkq.cell (p := ⟨a, 0, none⟩) ha).trans hca, (hkq.cell (p := ⟨b, 0, none⟩) hb).trans hcb⟩)); go_split_ands; repeat (first | exact Below.refl _ _ | assumption | refine Below.alloc ?_ (by first | (simp; done) | (simp; omega) | omega) _ | refine Below.setCell ?_ (by first | (simp; done) | (simp; omega) | omega) _ | apply Below.drew | refine Below.trans ?_ (Below.mono (by assumption) (by first | (simp; done) | (simp; omega) | omega))))) ((go_at_call 76; refine (lettersV_any _).mono ?_; rintro e w3 ⟨rfl, hv, hb3⟩; have hlk := unhide H _ _ hv; have hz3 := hb3.size; (try simp only [World.size_drew] at hlk)))
  all_goals (go_wp2; go_ret; exact ⟨rfl, by simp only [World.size_drew] at *; repeat (first | exact Below.refl _ _ | assumption | refine Below.alloc ?_ (by first | (simp; done) | (simp; omega) | omega) _ | refine Below.setCell ?_ (by first | (simp; done) | (simp; omega) | omega) _ | apply Below.drew | refine Below.trans ?_ (Below.mono (by assumption) (by first | (simp; done) | (simp; omega) | omega)))⟩)

set_option maxHeartbeats 2000000 in
theorem shKind_any (A : Option Addr) (len cap : Nat) (S : Nat → ByteArray) (hlen : len ≤ 9223372036854775807) (hS : ∀ i, i < len → (S i).size ≤ 9223372036854775807) (n f : Int) (w : World) (H : ShOk w A len S) :
    Calls Try.prog 103 #[.slice A len cap, .int .i64 n, .int .i64 f] w fun e w' => e = .returned (.tuple #[.int .i64 (kindV len S n f), .int .i64 (kindE len S n f)]) ∧ Below w.heap.size w w' := by
  have c1 := hide (fun W (hW : Below w.heap.size w W) => shOf_any A len cap S hlen hS n W (H.keep hW))
  clear hS H
  by_cases h : ofE len S n = 0
  · have hk := ofE_len h
    have es : ofS len S n = S n.toNat := by unfold ofS; rw [if_pos h]
    rw [h, es] at c1
    have hE : kindE len S n f = if 0 ≤ f ∧ f < (S n.toNat).size then 0 else 131 := by unfold kindE; rw [if_pos h]
    obtain ⟨h1, h2, -, h8, hl⟩ := hk
    have hV0 : kindE len S n f = 0 → kindV len S n f = kd (S n.toNat) f.toNat := fun hE => by unfold kindV; rw [if_pos hE]
    have hV1 : kindE len S n f ≠ 0 → kindV len S n f = 0 := fun hE => by unfold kindV; rw [if_neg hE]
    clear hl h es
    generalize kindV len S n f = V at *
    generalize kindE len S n f = E at *
    generalize S n.toNat = s at *
    clear h1 h2
    by_cases hf : 0 ≤ f ∧ f < s.size
    · rw [if_pos hf] at hE
      subst hE
      rw [hV0 rfl]
      clear hV0 hV1
      obtain ⟨f1, f2⟩ := hf
      obtain ⟨j, rfl⟩ : ∃ j : Nat, f = (j : Int) := ⟨f.toNat, by omega⟩
      have f3 : j < s.size := by omega
      rw [Int.toNat_natCast]
      go_enter Try.func103, Try.ntmps103
      go_wp2_with fail
      refine (unhide c1 _ (by repeat (first | exact Below.refl _ _ | assumption | refine Below.alloc ?_ (by first | (simp; done) | (simp; omega) | omega) _ | refine Below.setCell ?_ (by first | (simp; done) | (simp; omega) | omega) _ | apply Below.drew | refine Below.trans ?_ (Below.mono (by assumption) (by first | (simp; done) | (simp; omega) | omega))))).mono ?_
      rintro e w2 ⟨rfl, hb2⟩
      have hz2 := hb2.size
      simp only [World.size_alloc] at hz2
      have k1 := (hb2.cell (p := ⟨w.heap.size, 0, none⟩) (by simp)).trans (show _ = some (Value.int .i64 (j : Int)) by go_simp)
      have hq : w.heap.size < w2.heap.size := by omega
      go_wp2_with fail
      refine Calls.mono (R := fun e w' => e = .returned (.tuple #[.int .i64 (kd s j), .int .i64 0]) ∧ Below w2.heap.size w2 w') ?_ ?_
      · go_enter Try.func104, Try.ntmps104
        go_wp2_with fail
        refine (kind1_any s j f3 h8 w2.heap.size w.heap.size _ (by simp) (by simp; omega) (by go_simp) ?_).mono ?_
        · go_simp
        rintro e w3 ⟨rfl, hb3⟩
        go_wp2
        go_ret2
        exact ⟨rfl, by simp only [World.size_alloc, World.size_setCell] at hb3; repeat (first | exact Below.refl _ _ | assumption | refine Below.alloc ?_ (by first | (simp; done) | (simp; omega) | omega) _ | refine Below.setCell ?_ (by first | (simp; done) | (simp; omega) | omega) _ | apply Below.drew | refine Below.trans ?_ (Below.mono (by assumption) (by first | (simp; done) | (simp; omega) | omega)))⟩
      rintro e w3 ⟨rfl, hb3⟩
      go_wp2
      go_ret2
      exact ⟨rfl, by repeat (first | exact Below.refl _ _ | assumption | refine Below.alloc ?_ (by first | (simp; done) | (simp; omega) | omega) _ | refine Below.setCell ?_ (by first | (simp; done) | (simp; omega) | omega) _ | apply Below.drew | refine Below.trans ?_ (Below.mono (by assumption) (by first | (simp; done) | (simp; omega) | omega)))⟩
    · rw [if_neg hf] at hE
      have hV2 := hV1 (by omega)
      subst hE
      rw [hV2]
      clear hV0 hV1 hV2
      have h5 : f < 0 ∨ (s.size : Int) ≤ f := by omega
      clear hf
      rcases h5 with h5 | h5
      · go_enter Try.func103, Try.ntmps103
        go_wp2_with fail
        refine (unhide c1 _ (by repeat (first | exact Below.refl _ _ | assumption | refine Below.alloc ?_ (by first | (simp; done) | (simp; omega) | omega) _ | refine Below.setCell ?_ (by first | (simp; done) | (simp; omega) | omega) _ | apply Below.drew | refine Below.trans ?_ (Below.mono (by assumption) (by first | (simp; done) | (simp; omega) | omega))))).mono ?_
        rintro e w2 ⟨rfl, hb2⟩
        have hz2 := hb2.size
        simp only [World.size_alloc] at hz2
        have k1 := (hb2.cell (p := ⟨w.heap.size, 0, none⟩) (by simp)).trans (show _ = some (Value.int .i64 f) by go_simp)
        have hq : w.heap.size < w2.heap.size := by omega
        go_wp2
        go_ret2
        exact ⟨rfl, by repeat (first | exact Below.refl _ _ | assumption | refine Below.alloc ?_ (by first | (simp; done) | (simp; omega) | omega) _ | refine Below.setCell ?_ (by first | (simp; done) | (simp; omega) | omega) _ | apply Below.drew | refine Below.trans ?_ (Below.mono (by assumption) (by first | (simp; done) | (simp; omega) | omega)))⟩
      · have h6 : ¬ f < 0 := by omega
        go_enter Try.func103, Try.ntmps103
        go_wp2_with fail
        refine (unhide c1 _ (by repeat (first | exact Below.refl _ _ | assumption | refine Below.alloc ?_ (by first | (simp; done) | (simp; omega) | omega) _ | refine Below.setCell ?_ (by first | (simp; done) | (simp; omega) | omega) _ | apply Below.drew | refine Below.trans ?_ (Below.mono (by assumption) (by first | (simp; done) | (simp; omega) | omega))))).mono ?_
        rintro e w2 ⟨rfl, hb2⟩
        have hz2 := hb2.size
        simp only [World.size_alloc] at hz2
        have k1 := (hb2.cell (p := ⟨w.heap.size, 0, none⟩) (by simp)).trans (show _ = some (Value.int .i64 f) by go_simp)
        have hq : w.heap.size < w2.heap.size := by omega
        go_wp2
        go_ret2
        exact ⟨rfl, by repeat (first | exact Below.refl _ _ | assumption | refine Below.alloc ?_ (by first | (simp; done) | (simp; omega) | omega) _ | refine Below.setCell ?_ (by first | (simp; done) | (simp; omega) | omega) _ | apply Below.drew | refine Below.trans ?_ (Below.mono (by assumption) (by first | (simp; done) | (simp; omega) | omega)))⟩
  · have hE : kindE len S n f = ofE len S n := by unfold kindE; rw [if_neg h]
    have hV : kindV len S n f = 0 := by unfold kindV; rw [hE, if_neg h]
    rw [hE, hV]
    clear hE hV
    generalize ofS len S n = s at *
    have hb : (ofE len S n == 0) = false := by simpa using h
    have hb2 : (ofE len S n != 0) = true := by simpa using h
    generalize ofE len S n = q at *
    go_enter Try.func103, Try.ntmps103
    go_wp2_with fail
    refine (unhide c1 _ (by repeat (first | exact Below.refl _ _ | assumption | refine Below.alloc ?_ (by first | (simp; done) | (simp; omega) | omega) _ | refine Below.setCell ?_ (by first | (simp; done) | (simp; omega) | omega) _ | apply Below.drew | refine Below.trans ?_ (Below.mono (by assumption) (by first | (simp; done) | (simp; omega) | omega))))).mono ?_
    rintro e w2 ⟨rfl, hb2⟩
    have hz2 := hb2.size
    simp only [World.size_alloc] at hz2
    have hq : w.heap.size < w2.heap.size := by omega
    go_wp2
    go_ret2
    exact ⟨rfl, by repeat (first | exact Below.refl _ _ | assumption | refine Below.alloc ?_ (by first | (simp; done) | (simp; omega) | omega) _ | refine Below.setCell ?_ (by first | (simp; done) | (simp; omega) | omega) _ | apply Below.drew | refine Below.trans ?_ (Below.mono (by assumption) (by first | (simp; done) | (simp; omega) | omega)))⟩

set_option maxHeartbeats 2000000 in
theorem shIs_any (A : Option Addr) (len cap : Nat) (S : Nat → ByteArray) (hlen : len ≤ 9223372036854775807) (hS : ∀ i, i < len → (S i).size ≤ 9223372036854775807) (n f k : Int) (w : World) (H : ShOk w A len S) :
    Calls Try.prog 101 #[.slice A len cap, .int .i64 n, .int .i64 f, .int .i64 k] w fun e w' => e = .returned (.int .i64 (isE len S n f k)) ∧ Below w.heap.size w w' := by
  have c1 := hide (shKind_any A len cap S hlen hS n f w H)
  have hI : isE len S n f k = if kindE len S n f = 0 ∧ kindV len S n f ≠ k then 132 else kindE len S n f := rfl
  generalize kindE len S n f = E at *
  generalize kindV len S n f = V at *
  rw [hI]
  clear hI H hS
  by_cases hE : E = 0
  · subst hE
    by_cases hV : V = k
    · rw [if_neg (by simp [hV])]
      go_enter Try.func101, Try.ntmps101
      go_wp2_with fail
      refine (unhide c1).mono ?_
      rintro e w2 ⟨rfl, hb⟩
      go_wp2
      go_ret
      exact ⟨rfl, hb⟩
    · rw [if_pos ⟨rfl, hV⟩]
      have hb : (V != k) = true := by simpa using hV
      go_enter Try.func101, Try.ntmps101
      go_wp2_with fail
      refine (unhide c1).mono ?_
      rintro e w2 ⟨rfl, hb⟩
      go_wp2
      go_ret
      exact ⟨rfl, hb⟩
  · rw [if_neg (fun h => hE h.1)]
    have hb : (E == 0) = false := by simpa using hE
    go_enter Try.func101, Try.ntmps101
    go_wp2_with fail
    refine (unhide c1).mono ?_
    rintro e w2 ⟨rfl, hb⟩
    go_wp2
    go_ret
    exact ⟨rfl, hb⟩
end Go.Proofs.Ytbkaopeajjechaa
