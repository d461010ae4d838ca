/- The walks of package shape, beyond shapes and tables: sizes, kinds of fields; the same of its reference. -/
import Derived.Test.YtbkaopeajjechaaByB
namespace Go.Proofs.Ytbkaopeajjechaa
set_option linter.unusedVariables false
set_option linter.unusedSimpArgs false
open Go.RowKit Go.Maps

/-- The errors and answers of layer 3. -/
noncomputable def ofE (len : Nat) (S : Nat → ByteArray) (n : Int) : Int := if okTB len S = true then (if 0 ≤ n ∧ n < len then 0 else 130) else 2
noncomputable def ofS (len : Nat) (S : Nat → ByteArray) (n : Int) : ByteArray := if ofE len S n = 0 then S n.toNat else ⟨#[]⟩
noncomputable def szV (len : Nat) (S : Nat → ByteArray) (n : Int) : Int := if ofE len S n = 0 then 2 + (S n.toNat).size else 0
noncomputable def kindE (len : Nat) (S : Nat → ByteArray) (n f : Int) : Int := if ofE len S n = 0 then (if 0 ≤ f ∧ f < (S n.toNat).size then 0 else 131) else ofE len S n
/-- A field's kind by its letter. -/
def kd (s : ByteArray) (f : Nat) : Int := if (s.get! f).toNat = 115 then 1 else 0
noncomputable def kindV (len : Nat) (S : Nat → ByteArray) (n f : Int) : Int := if kindE len S n f = 0 then kd (S n.toNat) f.toNat else 0
noncomputable def isE (len : Nat) (S : Nat → ByteArray) (n f k : Int) : Int := if kindE len S n f = 0 ∧ kindV len S n f ≠ k then 132 else kindE len S n f

set_option maxHeartbeats 2000000 in
theorem shOf_any (A : Option Addr) (len cap : Nat) (S : Nat → ByteArray) (hlen : len ≤ 9223372036854775807) (hS : ∀ i, i < len → (S i).size ≤ 9223372036854775807) (n : Int) (w : World) (H : ShOk w A len S) :
    Calls Try.prog 77 #[.slice A len cap, .int .i64 n] w fun e w' => e = .returned (.tuple #[.string (ofS len S n), .int .i64 (ofE len S n)]) ∧ Below w.heap.size w w' := by
  have c1 := hide (shapeChk_any A len cap S hlen hS w H)
  have HH := hide (fun W (hW : Below w.heap.size w W) => H.keep hW)
  clear H hS
  cases e : okTB len S with
  | false =>
    rw [e, if_neg (by simp)] at c1
    have ee : ofE len S n = 2 := by unfold ofE; rw [e, if_neg (by simp)]
    have es : ofS len S n = ⟨#[]⟩ := by unfold ofS; rw [ee, if_neg (by decide)]
    rw [ee, es]
    clear e ee es
    go_enter Try.func77, Try.ntmps77
    go_wp2
    refine wp_scope_fwd 0 rfl ?_
    go_wp2_with fail
    refine (unhide c1).mono ?_
    rintro e w2 ⟨rfl, hb2⟩
    go_wp2
    (try (go_step3; refine fwd_goto ?_; go_wp2))
    (first | rw [fwd_ret] | rw [Exit.noGoto_ret] | skip)
    go_ret2
    exact ⟨rfl, by repeat (first | exact Below.refl _ _ | assumption | refine Below.alloc ?_ (by first | (simp; done) | (simp; omega) | omega) _ | refine Below.setCell ?_ (by first | (simp; done) | (simp; omega) | omega) _ | apply Below.drew | refine Below.trans ?_ (Below.mono (by assumption) (by first | (simp; done) | (simp; omega) | omega)))⟩
  | true =>
    rw [e, if_pos rfl] at c1
    by_cases h : 0 ≤ n ∧ n < len
    · have ee : ofE len S n = 0 := by unfold ofE; rw [e, if_pos rfl, if_pos h]
      have es : ofS len S n = S n.toNat := by unfold ofS; rw [ee, if_pos rfl]
      rw [ee, es]
      clear e ee es
      obtain ⟨h1, h2⟩ := h
      obtain ⟨k, rfl⟩ : ∃ k : Nat, n = (k : Int) := ⟨n.toNat, by omega⟩
      have h3 : k < len := by omega
      rw [Int.toNat_natCast]
      go_enter Try.func77, Try.ntmps77
      go_wp2
      refine wp_scope_fwd 0 rfl ?_
      go_wp2_with fail
      refine (unhide c1).mono ?_
      rintro e w2 ⟨rfl, hb2⟩
      obtain ⟨g, o, rfl, hg, hc⟩ := unhide HH _ hb2 (by omega)
      have hcell := hc k h3
      clear hc
      go_wp2
      (first | rw [fwd_ret] | rw [Exit.noGoto_ret] | skip)
      go_ret2
      exact ⟨rfl, by repeat (first | exact Below.refl _ _ | assumption | refine Below.alloc ?_ (by first | (simp; done) | (simp; omega) | omega) _ | refine Below.setCell ?_ (by first | (simp; done) | (simp; omega) | omega) _ | apply Below.drew | refine Below.trans ?_ (Below.mono (by assumption) (by first | (simp; done) | (simp; omega) | omega)))⟩
    · have ee : ofE len S n = 130 := by unfold ofE; rw [e, if_pos rfl, if_neg h]
      have es : ofS len S n = ⟨#[]⟩ := by unfold ofS; rw [ee, if_neg (by decide)]
      rw [ee, es]
      clear e ee es
      have h2 : n < 0 ∨ (len : Int) ≤ n := by omega
      clear h
      rcases h2 with h2 | h2
      · go_enter Try.func77, Try.ntmps77
        go_wp2
        refine wp_scope_fwd 0 rfl ?_
        go_wp2_with fail
        refine (unhide c1).mono ?_
        rintro e w2 ⟨rfl, hb2⟩
        go_wp2
        (try (go_step3; refine fwd_goto ?_; go_wp2))
        (first | rw [fwd_ret] | rw [Exit.noGoto_ret] | skip)
        go_ret2
        exact ⟨rfl, by repeat (first | exact Below.refl _ _ | assumption | refine Below.alloc ?_ (by first | (simp; done) | (simp; omega) | omega) _ | refine Below.setCell ?_ (by first | (simp; done) | (simp; omega) | omega) _ | apply Below.drew | refine Below.trans ?_ (Below.mono (by assumption) (by first | (simp; done) | (simp; omega) | omega)))⟩
      · have h3 : ¬ n < 0 := by omega
        go_enter Try.func77, Try.ntmps77
        go_wp2
        refine wp_scope_fwd 0 rfl ?_
        go_wp2_with fail
        refine (unhide c1).mono ?_
        rintro e w2 ⟨rfl, hb2⟩
        go_wp2
        (try (go_step3; refine fwd_goto ?_; go_wp2))
        (first | rw [fwd_ret] | rw [Exit.noGoto_ret] | skip)
        go_ret2
        exact ⟨rfl, by repeat (first | exact Below.refl _ _ | assumption | refine Below.alloc ?_ (by first | (simp; done) | (simp; omega) | omega) _ | refine Below.setCell ?_ (by first | (simp; done) | (simp; omega) | omega) _ | apply Below.drew | refine Below.trans ?_ (Below.mono (by assumption) (by first | (simp; done) | (simp; omega) | omega)))⟩

set_option maxHeartbeats 2000000 in
theorem shSize_any (A : Option Addr) (len cap : Nat) (S : Nat → ByteArray) (hlen : len ≤ 9223372036854775807) (hS : ∀ i, i < len → (S i).size ≤ 9223372036854775807) (n : Int) (w : World) (H : ShOk w A len S) :
    Calls Try.prog 43 #[.slice A len cap, .int .i64 n] w fun e w' => e = .returned (.tuple #[.int .i64 (szV len S n), .int .i64 (ofE len S n)]) ∧ Below w.heap.size w w' := by
  have c1 := hide (shOf_any A len cap S hlen hS n w H)
  by_cases h : ofE len S n = 0
  · have es : ofS len S n = S n.toNat := by unfold ofS; rw [if_pos h]
    have ev : szV len S n = 2 + (S n.toNat).size := by unfold szV; rw [if_pos h]
    have h8 : (S n.toNat).size ≤ 8 := by
      unfold ofE at h
      split at h
      · rename_i hT
        split at h
        · rename_i hn
          exact ((okTB_iff.1 hT).2.2 n.toNat (by omega)).1
        · omega
      · omega
    rw [es, h] at c1
    rw [ev, h]
    clear H hS h es ev
    generalize S n.toNat = s at *
    go_enter Try.func43, Try.ntmps43
    go_wp2_with fail
    refine (unhide c1).mono ?_
    rintro e w2 ⟨rfl, hb2⟩
    go_wp2_with fail
    refine Calls.mono (R := fun e w' => e = .returned (.tuple #[.int .i64 (2 + s.size), .int .i64 0]) ∧ Below w2.heap.size w2 w') ?_ ?_
    · go_enter Try.func78, Try.ntmps78
      go_wp2
      go_ret2
      exact ⟨rfl, by repeat (first | exact Below.refl _ _ | assumption | refine Below.alloc ?_ (by first | (simp; done) | (simp; omega) | omega) _ | refine Below.setCell ?_ (by first | (simp; done) | (simp; omega) | omega) _ | apply Below.drew | refine Below.trans ?_ (Below.mono (by assumption) (by first | (simp; done) | (simp; omega) | omega)))⟩
    rintro e w3 ⟨rfl, hb3⟩
    go_wp2
    go_ret2
    exact ⟨rfl, hb2.trans (hb3.mono hb2.size)⟩
  · have ev : szV len S n = 0 := by unfold szV; rw [if_neg h]
    rw [ev]
    have hb : (ofE len S n != 0) = true := by simpa using h
    clear H hS ev
    generalize ofS len S n = s at *
    generalize ofE len S n = z at *
    go_enter Try.func43, Try.ntmps43
    go_wp2_with fail
    refine (unhide c1).mono ?_
    rintro e w2 ⟨rfl, hb2⟩
    go_wp2_with fail
    refine Calls.mono (R := fun e w' => e = .returned (.tuple #[.int .i64 0, .int .i64 z]) ∧ Below w2.heap.size w2 w') ?_ ?_
    · go_enter Try.func78, Try.ntmps78
      go_wp2
      go_ret2
      exact ⟨rfl, by repeat (first | exact Below.refl _ _ | assumption | refine Below.alloc ?_ (by first | (simp; done) | (simp; omega) | omega) _ | refine Below.setCell ?_ (by first | (simp; done) | (simp; omega) | omega) _ | apply Below.drew | refine Below.trans ?_ (Below.mono (by assumption) (by first | (simp; done) | (simp; omega) | omega)))⟩
    rintro e w3 ⟨rfl, hb3⟩
    go_wp2
    go_ret2
    exact ⟨rfl, hb2.trans (hb3.mono hb2.size)⟩

theorem ofE_len {len : Nat} {S : Nat → ByteArray} {n : Int} (h : ofE len S n = 0) : 0 ≤ n ∧ n < len ∧ okTB len S = true ∧ okS (S n.toNat) := by
  unfold ofE at h
  split at h
  · rename_i hT
    split at h
    · rename_i hn
      exact ⟨hn.1, hn.2, hT, (okTB_iff.1 hT).2.2 n.toNat (by omega)⟩
    · omega
  · omega

set_option maxHeartbeats 2000000 in
theorem refSize_any (A : Option Addr) (len cap : Nat) (S : Nat → ByteArray) (hlen : len ≤ 9223372036854775807) (hS : ∀ i, i < len → (S i).size ≤ 9223372036854775807) (n : Int) (w : World) (H : ShOk w A len S) :
    Calls Try.prog 97 #[.slice A len cap, .int .i64 n] w fun e w' => e = .returned (.tuple #[.int .i64 (szV len S n), .int .i64 (ofE len S n)]) ∧ w = w' := by
  have c1 := hide (right03_any A len cap S hlen hS w H)
  cases e : okTB len S with
  | false =>
    rw [e] at c1
    have ee : ofE len S n = 2 := by unfold ofE; rw [e, if_neg (by simp)]
    have es : szV len S n = 0 := by unfold szV; rw [ee, if_neg (by decide)]
    rw [ee, es]
    clear e ee es H hS
    go_enter Try.func97, Try.ntmps97
    go_wp2_with fail
    refine (unhide c1).mono ?_
    rintro e w2 ⟨rfl, rfl⟩
    go_wp2
    go_ret2
    exact ⟨rfl, rfl⟩
  | true =>
    rw [e] at c1
    by_cases h : 0 ≤ n ∧ n < len
    · have ee : ofE len S n = 0 := by unfold ofE; rw [e, if_pos rfl, if_pos h]
      have es : szV len S n = 2 + (S n.toNat).size := by unfold szV; rw [ee, if_pos rfl]
      have h8 := (ofE_len ee).2.2.2.1
      rw [ee, es]
      clear e ee es
      obtain ⟨h1, h2⟩ := h
      obtain ⟨k, rfl⟩ : ∃ k : Nat, n = (k : Int) := ⟨n.toNat, by omega⟩
      have h3 : k < len := by omega
      rw [Int.toNat_natCast] at h8 ⊢
      obtain ⟨g, o, rfl, hg, hc⟩ := H (by omega)
      have hcell := hc k h3
      clear hc H hS
      go_enter Try.func97, Try.ntmps97
      go_wp2_with fail
      refine (unhide c1).mono ?_
      rintro e w2 ⟨rfl, rfl⟩
      go_wp2
      go_ret2
      exact ⟨rfl, rfl⟩
    · have ee : ofE len S n = 130 := by unfold ofE; rw [e, if_pos rfl, if_neg h]
      have es : szV len S n = 0 := by unfold szV; rw [ee, if_neg (by decide)]
      rw [ee, es]
      clear e ee es H hS
      have h2 : n < 0 ∨ (len : Int) ≤ n := by omega
      clear h
      rcases h2 with h2 | h2
      · go_enter Try.func97, Try.ntmps97
        go_wp2_with fail
        refine (unhide c1).mono ?_
        rintro e w2 ⟨rfl, rfl⟩
        go_wp2
        go_ret2
        exact ⟨rfl, rfl⟩
      · have h3 : ¬ n < 0 := by omega
        go_enter Try.func97, Try.ntmps97
        go_wp2_with fail
        refine (unhide c1).mono ?_
        rintro e w2 ⟨rfl, rfl⟩
        go_wp2
        go_ret2
        exact ⟨rfl, rfl⟩

set_option maxHeartbeats 2000000 in
theorem refKind_any (A : Option Addr) (len cap : Nat) (S : Nat → ByteArray) (hlen : len ≤ 9223372036854775807) (hS : ∀ i, i < len → (S i).size ≤ 9223372036854775807) (n f : Int) (w : World) (H : ShOk w A len S) :
    Calls Try.prog 98 #[.slice A len cap, .int .i64 n, .int .i64 f] w fun e w' => e = .returned (.tuple #[.int .i64 (kindV len S n f), .int .i64 (kindE len S n f)]) ∧ w = w' := by
  have c1 := hide (refSize_any A len cap S hlen hS n w H)
  by_cases h : ofE len S n = 0
  · have hk := ofE_len h
    rw [h] at c1
    have hE : kindE len S n f = if 0 ≤ f ∧ f < (S n.toNat).size then 0 else 131 := by unfold kindE; rw [if_pos h]
    obtain ⟨h1, h2, -, h8, hl⟩ := hk
    obtain ⟨k, rfl⟩ : ∃ k : Nat, n = (k : Int) := ⟨n.toNat, by omega⟩
    have h3 : k < len := by omega
    simp only [Int.toNat_natCast] at h8 hl hE
    obtain ⟨g, o, rfl, hg, hc⟩ := H (by omega)
    have hcell := hc k h3
    clear hc H hS h
    generalize szV len S k = z at c1
    by_cases hf : 0 ≤ f ∧ f < (S k).size
    · rw [if_pos hf] at hE
      have hV : kindV len S k f = kd (S k) f.toNat := by unfold kindV; rw [if_pos hE, Int.toNat_natCast]
      rw [hE, hV]
      clear hE hV
      obtain ⟨f1, f2⟩ := hf
      obtain ⟨j, rfl⟩ : ∃ j : Nat, f = (j : Int) := ⟨f.toNat, by omega⟩
      have f3 : j < (S k).size := by omega
      rw [Int.toNat_natCast]
      have hkd : kd (S k) j = if ((S k)[j]'f3).toNat = 115 then 1 else 0 := by
        unfold kd
        rw [show (S k).get! j = (S k)[j]'f3 by simp [ByteArray.get!, f3]; rfl]
      rw [hkd]
      clear hkd hl
      generalize S k = s at *
      by_cases hb : (s[j]'f3).toNat = 115
      · rw [if_pos hb]
        go_enter Try.func98, Try.ntmps98
        go_wp2_with fail
        refine (unhide c1).mono ?_
        rintro e w2 ⟨rfl, rfl⟩
        go_wp2
        go_ret2
        exact ⟨rfl, rfl⟩
      · rw [if_neg hb]
        go_enter Try.func98, Try.ntmps98
        go_wp2_with fail
        refine (unhide c1).mono ?_
        rintro e w2 ⟨rfl, rfl⟩
        go_wp2
        go_ret2
        exact ⟨rfl, rfl⟩
    · rw [if_neg hf] at hE
      have hV : kindV len S k f = 0 := by unfold kindV; rw [hE, if_neg (by decide)]
      rw [hE, hV]
      clear hE hV hl
      have h5 : f < 0 ∨ ((S k).size : Int) ≤ f := by omega
      clear hf
      generalize S k = s at *
      rcases h5 with h5 | h5
      · go_enter Try.func98, Try.ntmps98
        go_wp2_with fail
        refine (unhide c1).mono ?_
        rintro e w2 ⟨rfl, rfl⟩
        go_wp2
        go_ret2
        exact ⟨rfl, rfl⟩
      · have h6 : ¬ f < 0 := by omega
        go_enter Try.func98, Try.ntmps98
        go_wp2_with fail
        refine (unhide c1).mono ?_
        rintro e w2 ⟨rfl, rfl⟩
        go_wp2
        go_ret2
        exact ⟨rfl, rfl⟩
  · have hE : kindE len S n f = ofE len S n := by unfold kindE; rw [if_neg h]
    have hV : kindV len S n f = 0 := by unfold kindV; rw [hE, if_neg h]
    rw [hE, hV]
    clear hE hV H hS
    generalize szV len S n = z at c1
    have hb : (ofE len S n != 0) = true := by simpa using h
    generalize ofE len S n = q at *
    go_enter Try.func98, Try.ntmps98
    go_wp2_with fail
    refine (unhide c1).mono ?_
    rintro e w2 ⟨rfl, rfl⟩
    go_wp2
    go_ret2
    exact ⟨rfl, rfl⟩

set_option maxHeartbeats 2000000 in
theorem refIs_any (A : Option Addr) (len cap : Nat) (S : Nat → ByteArray) (hlen : len ≤ 9223372036854775807) (hS : ∀ i, i < len → (S i).size ≤ 9223372036854775807) (n f k : Int) (w : World) (H : ShOk w A len S) :
    Calls Try.prog 71 #[.slice A len cap, .int .i64 n, .int .i64 f, .int .i64 k] w fun e w' => e = .returned (.int .i64 (isE len S n f k)) ∧ w = w' := by
  have c1 := hide (refKind_any A len cap S hlen hS n f w H)
  have hI : isE len S n f k = if kindE len S n f = 0 ∧ kindV len S n f ≠ k then 132 else kindE len S n f := rfl
  generalize kindE len S n f = E at *
  generalize kindV len S n f = V at *
  rw [hI]
  clear hI H hS
  by_cases hE : E = 0
  · subst hE
    by_cases hV : V = k
    · rw [if_neg (by simp [hV])]
      go_enter Try.func71, Try.ntmps71
      go_wp2_with fail
      refine (unhide c1).mono ?_
      rintro e w2 ⟨rfl, rfl⟩
      go_wp2
      go_ret
      exact ⟨rfl, rfl⟩
    · rw [if_pos ⟨rfl, hV⟩]
      have hb : (V != k) = true := by simpa using hV
      go_enter Try.func71, Try.ntmps71
      go_wp2_with fail
      refine (unhide c1).mono ?_
      rintro e w2 ⟨rfl, rfl⟩
      go_wp2
      go_ret
      exact ⟨rfl, rfl⟩
  · rw [if_neg (fun h => hE h.1)]
    have hb : (E == 0) = false := by simpa using hE
    go_enter Try.func71, Try.ntmps71
    go_wp2_with fail
    refine (unhide c1).mono ?_
    rintro e w2 ⟨rfl, rfl⟩
    go_wp2
    go_ret
    exact ⟨rfl, rfl⟩

/-- An element of whatever kind reads as itself. -/
def heldE (v : Value) : Option (DataW Value × List MemPlace) := some (.held v, [])
def ltV (r : Int) : Value := .int .i64 (if r = 115 then 1 else 0)
def ltD : DataW Value := ((DataW.map []).put (.int .i32 112) (.held (.int .i64 0))).put (.int .i32 115) (.held (.int .i64 1))

theorem lt_at (r : Int) : ltD.atKey (.int .i32 r) (.held (.int .i64 0)) = .held (ltV r) := by
  have i0 : IsMap (DataW.map (H := Value) []) := ⟨_, rfl⟩
  have i1 := IsMap.put i0 (.int .i32 112) (.held (.int .i64 0))
  unfold ltD ltV
  by_cases h2 : r = 115
  · subst h2
    rw [atKey_put_same i1 (show WideAt.IsKeyLit (.int .i32 115) from trivial)]
    rfl
  rw [atKey_put_other (fun h => h2 (by injection h))]
  by_cases h1 : r = 112
  · subst h1
    rw [atKey_put_same i0 (show WideAt.IsKeyLit (.int .i32 112) from trivial)]
    rfl
  rw [atKey_put_other (fun h => h1 (by injection h)), if_neg h2]
  rfl

/-- The letters, with what they stand for. -/
def LetV (W : World) (b : Nat) : Prop :=
  ∀ U, Below W.heap.size W U → ∀ r : Int, (Lit.int .i32 r).wf = true → (Instr.lookup 136 (.map (some b)) (.int .i32 r) false).run Try.prog U = .ok (ltV r) U

set_option maxHeartbeats 1000000 in
theorem lettersV_any (w : World) : Calls Try.prog 76 #[] w fun e w' => e = .returned (.map (some w.heap.size)) ∧ LetV w' w.heap.size ∧ Below w.heap.size w w' := by
  have hmm := @run_makeMap Try.prog
  have h0 := (World.ownsMap_made (H := Value) w Try.prog 21 heldE : _)
  obtain ⟨U1, p1, o1, g1⟩ := h0.update (int_keyed key_r) map_l (by decide) (keyOf_int_mk key_r (a := 112) (by decide)) (show heldE (.int .i64 0) = _ from rfl)
  obtain ⟨U2, p2, o2, g2⟩ := o1.update (int_keyed key_r) map_l (by decide) (keyOf_int_mk key_r (a := 115) (by decide)) (show heldE (.int .i64 1) = _ from rfl)
  have hs1 := g1.size
  simp only [World.size_alloc] at hs1
  have B2 : Hid (Below w.heap.size w U2) := hide ((((Below.refl _ w).alloc (Nat.le_refl _) _).grown g1 (by simp) (fun r hr => by cases hr; omega)).grown g2 (by omega) (fun r hr => by cases hr; omega))
  have HV : Hid (LetV U2 w.heap.size) := hide (fun U hU r hr => by
    have oU := o2.kept (row := none) ⟨hU.os, hU.tape, hU.output, hU.size, fun i hi _ => hU.block i hi⟩ (by simp)
    obtain ⟨v, ps, hrun, hv⟩ := oU.lookup (int_keyed key_r) map_l (zero_f U) (show heldE (.int .i64 0) = some (.held (.int .i64 0), []) from rfl) (keyOf_int_mk key_r hr)
    have e := lt_at r
    unfold ltD at e
    rw [e] at hv
    simp only [heldE, Option.some.injEq, Prod.mk.injEq, DataW.held.injEq] at hv
    rw [← hv.1]
    exact hrun)
  clear h0 o1 o2 g1 g2
  go_enter Try.func76, Try.ntmps76
  go_wp2
  go_ret
  exact ⟨rfl, unhide HV, unhide B2⟩

end Go.Proofs.Ytbkaopeajjechaa
