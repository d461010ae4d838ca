/- The walks of package graph: a turn of any kind. -/
import Derived.Test.YtbkaopeajjechaaGrQ
namespace Go.Proofs.Ytbkaopeajjechaa
set_option linter.unusedVariables false
set_option linter.unusedSimpArgs false
open Go.RowKit Go.Maps

theorem opE_zero {len : Nat} {S : Nat → ByteArray} {z : Nat → Int} (h : opE len S z = 0) : (1 ≤ z 0 ∧ z 0 ≤ 11) ∧ slotP z ∧ (z 0 = 1 → ofE len S (z 5) = 0) := by
  cases e1 : okTB len S with
  | false => rw [opE_2 e1] at h; omega
  | true =>
    cases e2 : bareB z with
    | false => rw [opE_180 e1 e2] at h; omega
    | true =>
      by_cases e3 : slotP z
      · refine ⟨(bareB_iff.1 e2).1, e3, fun e4 => ?_⟩
        rw [opE_of e1 e2 e3 e4] at h
        exact h
      · rw [opE_181 e1 e2 e3] at h; omega

section
variable {T : Nat} {sp : Int} {len : Nat} {S : Nat → ByteArray} {w : World} {L : Lay} {G : Gr}

/-- What an operation is answered that is not refused. -/
def Gr.okV (G : Gr) (t : Nat) (z : Nat → Int) : Value := .agg #[.int .i64 0, .bool (G.is t z), .int .i64 (G.val t z)]

theorem Gr.err_obj {t : Nat} {z : Nat → Int} (h0 : opE len S z = 0) (h1 : 2 ≤ z 0) (h2 : z 0 ≤ 7) : G.err len S t z = if G.root t (z 1).toNat = 0 then 183 else isE len S (G.sh (G.root t (z 1).toNat)) (z 4) (fldK (z 0)) := by
  unfold Gr.err
  rw [if_neg (by rw [h0]; simp), if_neg (by omega)]

/-- An operation that finds its object and field. -/
structure Found (G : Gr) (len : Nat) (S : Nat → ByteArray) (t : Nat) (z : Nat → Int) (a f : Nat) : Prop where
  ha : z 1 = (a : Int)
  a6 : a < 6
  hf : z 4 = (f : Int)
  ho : G.root t a ≠ 0
  hi : isE len S (G.sh (G.root t a)) (z 4) (fldK (z 0)) = 0
  hfl : f < (S (G.sh (G.root t a))).size
  hk : kd (S (G.sh (G.root t a))) f = fldK (z 0)

theorem Found.of {t : Nat} {z : Nat → Int} (h0 : opE len S z = 0) (h1 : 2 ≤ z 0) (h2 : z 0 ≤ 7) (he : G.err len S t z = 0) : ∃ a f, Found G len S t z a f := by
  have hs := (opE_zero h0).2.1
  rw [Gr.err_obj h0 h1 h2] at he
  split at he
  · omega
  · rename_i hne
    obtain ⟨a, ha⟩ : ∃ a : Nat, z 1 = (a : Int) := ⟨(z 1).toNat, by unfold slotP at hs; omega⟩
    have hi := isE_ok he
    obtain ⟨f, hf⟩ : ∃ f : Nat, z 4 = (f : Int) := ⟨(z 4).toNat, by omega⟩
    rw [ha, Int.toNat_natCast] at he hne hi
    have h2 := hi.2
    rw [hf] at h2
    simp only [Int.toNat_natCast] at h2
    exact ⟨a, f, ha, by unfold slotP at hs; omega, hf, hne, he, by omega, h2.2⟩

theorem turn_ok (H : IsG T sp len S w L G G.n) (hlen : len ≤ 9223372036854775807) (hS : ∀ i, i < len → (S i).size ≤ 9223372036854775807) (hn : G.n < 9223372036854775807) (t k : Nat) (z : Nat → Int) (ht : t < T) (hz : z 0 = (k : Int)) (h0 : opE len S z = 0) (he : G.err len S t z = 0) :
    Calls Try.prog (kfn k) #[trV L t z] w fun e w' => e = .returned (G.okV t z) ∧ (∃ L', Lay.Ext L L' w.heap.size ∧ IsG T sp len S w' L' (G.did t z) ((G.did t z).n : Nat)) ∧ Chg L.own w w' := by
  obtain ⟨hk, hsl, h5⟩ := opE_zero h0
  obtain ⟨⟨s1, s2⟩, ⟨s3, s4⟩, s5, s6⟩ := hsl
  obtain ⟨b, hb⟩ : ∃ b : Nat, z 2 = (b : Int) := ⟨(z 2).toNat, by omega⟩
  obtain ⟨c, hc⟩ : ∃ c : Nat, z 3 = (c : Int) := ⟨(z 3).toNat, by omega⟩
  have b6 : b < 6 := by omega
  have c6 : c < 6 := by omega
  have hbn : (z 2).toNat = b := by omega
  have hcn : (z 3).toNat = c := by omega
  obtain rfl | rfl | rfl | rfl | rfl | rfl | rfl | rfl | rfl | rfl | rfl : k = 1 ∨ k = 2 ∨ k = 3 ∨ k = 4 ∨ k = 5 ∨ k = 6 ∨ k = 7 ∨ k = 8 ∨ k = 9 ∨ k = 10 ∨ k = 11 := by omega
  · -- alloc
    obtain ⟨a, ha⟩ : ∃ a : Nat, z 1 = (a : Int) := ⟨(z 1).toNat, by omega⟩
    have hl := ofE_len (h5 (by omega))
    obtain ⟨s, hs⟩ : ∃ s : Nat, z 5 = (s : Int) := ⟨(z 5).toNat, by omega⟩
    have e1 : G.okV t z = .agg #[.int .i64 0, .bool false, .int .i64 0] := by unfold Gr.okV Gr.is Gr.val; simp [hz]
    have e2 : G.did t z = (G.more s).slot t a (G.n + 1) := by unfold Gr.did; rw [if_pos (by omega), show (z 5).toNat = s by omega, show (z 1).toNat = a by omega]
    rw [e1, e2]
    refine (tAlloc H t a s z ht ha (by omega) hs (by omega) ⟨by omega, by omega⟩).mono ?_
    rintro e w' ⟨h1, ⟨L', h2, h3⟩, h4⟩
    exact ⟨h1, ⟨L', h2, by show IsG T sp len S w' L' _ ((G.n + 1 : Nat) : Int); exact_mod_cast h3⟩, h4⟩
  · -- get
    obtain ⟨a, f, F⟩ := Found.of h0 (by omega) (by omega) he
    have hi := F.hi
    rw [show fldK (z 0) = 0 by rw [hz]; rfl] at hi
    have hk0 := F.hk
    rw [show fldK (z 0) = 0 by rw [hz]; rfl] at hk0
    have hp := H.ok.ptr (G.root t a) f (by have := F.ho; omega) (H.ok.root t a ht F.a6) F.hfl hk0
    have eo : G.obj t z = G.root t a := by unfold Gr.obj; rw [F.ha, Int.toNat_natCast]
    have eg : G.got t z = G.fl (G.root t a) f := by unfold Gr.got; rw [eo, F.hf, Int.toNat_natCast]
    have e1 : G.okV t z = .agg #[.int .i64 0, .bool (!(decide ((G.fl (G.root t a) f).toNat = 0))), .int .i64 0] := by
      unfold Gr.okV Gr.is Gr.val
      rw [if_pos (by omega), if_neg (by omega), eg]
      have : (G.fl (G.root t a) f != 0) = !(decide ((G.fl (G.root t a) f).toNat = 0)) := by
        rw [Bool.eq_iff_iff]; simp; omega
      rw [this]
    have e2 : G.did t z = G.slot t b (G.fl (G.root t a) f).toNat := by unfold Gr.did; rw [if_neg (by omega), if_pos (by omega), eg, hbn]
    rw [e1, e2]
    refine (tGet H hlen hS t a b f (G.root t a) z ht F.ha F.a6 hb b6 F.hf rfl F.ho hi).mono ?_
    rintro e w' ⟨h1, h2, h3⟩
    exact ⟨h1, ⟨L, Lay.Ext.refl _ _, h2⟩, h3⟩
  · -- put
    obtain ⟨a, f, F⟩ := Found.of h0 (by omega) (by omega) he
    have hi := F.hi
    rw [show fldK (z 0) = 0 by rw [hz]; rfl] at hi
    have eo : G.obj t z = G.root t a := by unfold Gr.obj; rw [F.ha, Int.toNat_natCast]
    have e1 : G.okV t z = .agg #[.int .i64 0, .bool false, .int .i64 0] := by unfold Gr.okV Gr.is Gr.val; simp [hz]
    have e2 : G.did t z = G.field (G.root t a) f (G.root t b) := by unfold Gr.did; rw [if_neg (by omega), if_neg (by omega), if_pos (by omega), eo, F.hf, Int.toNat_natCast, hbn]
    rw [e1, e2]
    refine (tPut H hlen hS t a b f (G.root t a) z ht F.ha F.a6 hb b6 F.hf rfl F.ho hi).mono ?_
    rintro e w' ⟨h1, h2, h3⟩
    exact ⟨h1, ⟨L, Lay.Ext.refl _ _, h2⟩, h3⟩
  · -- cas
    obtain ⟨a, f, F⟩ := Found.of h0 (by omega) (by omega) he
    have hi := F.hi
    rw [show fldK (z 0) = 0 by rw [hz]; rfl] at hi
    have hk0 := F.hk
    rw [show fldK (z 0) = 0 by rw [hz]; rfl] at hk0
    have hp := H.ok.ptr (G.root t a) f (by have := F.ho; omega) (H.ok.root t a ht F.a6) F.hfl hk0
    have eo : G.obj t z = G.root t a := by unfold Gr.obj; rw [F.ha, Int.toNat_natCast]
    have eg : G.got t z = G.fl (G.root t a) f := by unfold Gr.got; rw [eo, F.hf, Int.toNat_natCast]
    have e1 : G.okV t z = .agg #[.int .i64 0, .bool (decide ((G.fl (G.root t a) f).toNat = G.root t b)), .int .i64 0] := by
      unfold Gr.okV Gr.is Gr.val
      rw [if_neg (by omega), if_pos (by omega), if_neg (by omega), eg, hbn]
      have : (G.fl (G.root t a) f == (G.root t b : Int)) = decide ((G.fl (G.root t a) f).toNat = G.root t b) := by
        rw [Bool.eq_iff_iff]; simp; omega
      rw [this]
    have e2 : G.did t z = if (G.fl (G.root t a) f).toNat = G.root t b then G.field (G.root t a) f (G.root t c) else G := by
      unfold Gr.did
      rw [if_neg (by omega), if_neg (by omega), if_neg (by omega), if_pos (by omega), eg, eo, F.hf, Int.toNat_natCast, hbn, hcn]
      by_cases h : (G.fl (G.root t a) f).toNat = G.root t b
      · rw [if_pos h, if_pos (by omega)]
      · rw [if_neg h, if_neg (by omega)]
    rw [e1, e2]
    refine (tCas H hlen hS t a b f (G.root t a) z ht F.ha F.a6 hb b6 c hc c6 F.hf rfl F.ho hi).mono ?_
    rintro e w' ⟨h1, h2, h3⟩
    refine ⟨h1, ⟨L, Lay.Ext.refl _ _, ?_⟩, h3⟩
    split at h2
    · rename_i h; rw [if_pos h]; exact h2
    · rename_i h; rw [if_neg h]; exact h2
  · -- getInt
    obtain ⟨a, f, F⟩ := Found.of h0 (by omega) (by omega) he
    have hi := F.hi
    rw [show fldK (z 0) = 1 by rw [hz]; rfl] at hi
    have eo : G.obj t z = G.root t a := by unfold Gr.obj; rw [F.ha, Int.toNat_natCast]
    have eg : G.got t z = G.fl (G.root t a) f := by unfold Gr.got; rw [eo, F.hf, Int.toNat_natCast]
    have e1 : G.okV t z = .agg #[.int .i64 0, .bool false, .int .i64 (G.fl (G.root t a) f)] := by unfold Gr.okV Gr.is Gr.val; rw [eg]; simp [hz]
    have e2 : G.did t z = G := by unfold Gr.did; simp [hz]
    rw [e1, e2]
    refine (tGetInt H hlen hS t a f (G.root t a) z ht F.ha F.a6 F.hf rfl F.ho hi).mono ?_
    rintro e w' ⟨h1, h2, h3⟩
    exact ⟨h1, ⟨L, Lay.Ext.refl _ _, h2⟩, h3⟩
  · -- putInt
    obtain ⟨a, f, F⟩ := Found.of h0 (by omega) (by omega) he
    have hi := F.hi
    rw [show fldK (z 0) = 1 by rw [hz]; rfl] at hi
    have eo : G.obj t z = G.root t a := by unfold Gr.obj; rw [F.ha, Int.toNat_natCast]
    have e1 : G.okV t z = .agg #[.int .i64 0, .bool false, .int .i64 0] := by unfold Gr.okV Gr.is Gr.val; simp [hz]
    have e2 : G.did t z = G.field (G.root t a) f (z 6) := by unfold Gr.did; rw [if_neg (by omega), if_neg (by omega), if_neg (by omega), if_neg (by omega), if_pos (by omega), eo, F.hf, Int.toNat_natCast]
    rw [e1, e2]
    refine (tPutInt H hlen hS t a f (G.root t a) z ht F.ha F.a6 F.hf rfl F.ho hi).mono ?_
    rintro e w' ⟨h1, h2, h3⟩
    exact ⟨h1, ⟨L, Lay.Ext.refl _ _, h2⟩, h3⟩
  · -- casInt
    obtain ⟨a, f, F⟩ := Found.of h0 (by omega) (by omega) he
    have hi := F.hi
    rw [show fldK (z 0) = 1 by rw [hz]; rfl] at hi
    have eo : G.obj t z = G.root t a := by unfold Gr.obj; rw [F.ha, Int.toNat_natCast]
    have eg : G.got t z = G.fl (G.root t a) f := by unfold Gr.got; rw [eo, F.hf, Int.toNat_natCast]
    have e1 : G.okV t z = .agg #[.int .i64 0, .bool (decide (G.fl (G.root t a) f = z 6)), .int .i64 0] := by
      unfold Gr.okV Gr.is Gr.val
      rw [if_neg (by omega), if_neg (by omega), if_pos (by omega), if_neg (by omega), eg]
      have : (G.fl (G.root t a) f == z 6) = decide (G.fl (G.root t a) f = z 6) := by rw [Bool.eq_iff_iff]; simp
      rw [this]
    have e2 : G.did t z = if G.fl (G.root t a) f = z 6 then G.field (G.root t a) f (z 7) else G := by
      unfold Gr.did
      rw [if_neg (by omega), if_neg (by omega), if_neg (by omega), if_neg (by omega), if_neg (by omega), if_pos (by omega), eg, eo, F.hf, Int.toNat_natCast]
    rw [e1, e2]
    refine (tCasInt H hlen hS t a f (G.root t a) z ht F.ha F.a6 F.hf rfl F.ho hi).mono ?_
    rintro e w' ⟨h1, h2, h3⟩
    refine ⟨h1, ⟨L, Lay.Ext.refl _ _, ?_⟩, h3⟩
    split at h2
    · rename_i h; rw [if_pos h]; exact h2
    · rename_i h; rw [if_neg h]; exact h2
  · -- eq
    obtain ⟨a, ha⟩ : ∃ a : Nat, z 1 = (a : Int) := ⟨(z 1).toNat, by omega⟩
    have e1 : G.okV t z = .agg #[.int .i64 0, .bool (decide (G.root t a = G.root t b)), .int .i64 0] := by
      unfold Gr.okV Gr.is Gr.val
      rw [if_neg (by omega), if_neg (by omega), if_neg (by omega), if_pos (by omega), if_neg (by omega), hbn, show (z 1).toNat = a by omega]
      have : (G.root t a == G.root t b) = decide (G.root t a = G.root t b) := by rw [Bool.eq_iff_iff]; simp
      rw [this]
    have e2 : G.did t z = G := by unfold Gr.did; simp [hz]
    rw [e1, e2]
    refine (tEq H t a b z ht ha (by omega) hb b6).mono ?_
    rintro e w' ⟨h1, h2, h3⟩
    exact ⟨h1, ⟨L, Lay.Ext.refl _ _, h2⟩, h3⟩
  · -- move
    obtain ⟨a, ha⟩ : ∃ a : Nat, z 1 = (a : Int) := ⟨(z 1).toNat, by omega⟩
    have e1 : G.okV t z = .agg #[.int .i64 0, .bool false, .int .i64 0] := by unfold Gr.okV Gr.is Gr.val; simp [hz]
    have e2 : G.did t z = G.slot t a (G.root t b) := by unfold Gr.did; simp [hz, hbn, show (z 1).toNat = a by omega]
    rw [e1, e2]
    refine (tMove H t a b z ht ha (by omega) hb b6).mono ?_
    rintro e w' ⟨h1, h2, h3⟩
    exact ⟨h1, ⟨L, Lay.Ext.refl _ _, h2⟩, h3⟩
  · -- drop
    obtain ⟨a, ha⟩ : ∃ a : Nat, z 1 = (a : Int) := ⟨(z 1).toNat, by omega⟩
    have e1 : G.okV t z = .agg #[.int .i64 0, .bool false, .int .i64 0] := by unfold Gr.okV Gr.is Gr.val; simp [hz]
    have e2 : G.did t z = G.slot t a 0 := by unfold Gr.did; simp [hz, show (z 1).toNat = a by omega]
    rw [e1, e2]
    refine (tDrop H t a z ht ha (by omega)).mono ?_
    rintro e w' ⟨h1, h2, h3⟩
    exact ⟨h1, ⟨L, Lay.Ext.refl _ _, h2⟩, h3⟩
  · -- collect
    have e1 : G.okV t z = .agg #[.int .i64 0, .bool false, .int .i64 0] := by unfold Gr.okV Gr.is Gr.val; simp [hz]
    have e2 : G.did t z = G := by unfold Gr.did; simp [hz]
    rw [e1, e2]
    refine (tCollect H t z).mono ?_
    rintro e w' ⟨h1, h2, h3⟩
    exact ⟨h1, ⟨L, Lay.Ext.refl _ _, h2⟩, h3⟩

theorem turn_no (H : IsG T sp len S w L G G.n) (hlen : len ≤ 9223372036854775807) (hS : ∀ i, i < len → (S i).size ≤ 9223372036854775807) (t k : Nat) (z : Nat → Int) (ht : t < T) (hz : z 0 = (k : Int)) (h0 : opE len S z = 0) (he : G.err len S t z ≠ 0) :
    Calls Try.prog (kfn k) #[trV L t z] w fun e w' => e = panE (G.err len S t z) ∧ Below w.heap.size w w' := by
  obtain ⟨hk, hsl, -⟩ := opE_zero h0
  obtain ⟨⟨s1, s2⟩, ⟨s3, s4⟩, s5, s6⟩ := hsl
  obtain ⟨a, ha⟩ : ∃ a : Nat, z 1 = (a : Int) := ⟨(z 1).toNat, by omega⟩
  obtain ⟨b, hb⟩ : ∃ b : Nat, z 2 = (b : Int) := ⟨(z 2).toNat, by omega⟩
  obtain ⟨c, hc⟩ : ∃ c : Nat, z 3 = (c : Int) := ⟨(z 3).toNat, by omega⟩
  have a6 : a < 6 := by omega
  have b6 : b < 6 := by omega
  have c6 : c < 6 := by omega
  have hkk : 2 ≤ z 0 ∧ z 0 ≤ 7 := by
    apply Classical.byContradiction
    intro h
    apply he
    unfold Gr.err
    rw [if_neg (by rw [h0]; simp), if_pos (by omega)]
  rw [Gr.err_obj h0 hkk.1 hkk.2, show (z 1).toNat = a by omega] at he ⊢
  by_cases hr : G.root t a = 0
  · rw [if_pos hr]
    obtain rfl | rfl | rfl | rfl | rfl | rfl : k = 2 ∨ k = 3 ∨ k = 4 ∨ k = 5 ∨ k = 6 ∨ k = 7 := by omega
    · exact tGetNull H t a b z ht ha a6 hb b6 hr
    · exact tPutNull H t a b z ht ha a6 hb b6 hr
    · exact tCasNull H t a b c z ht ha a6 hb b6 hc c6 hr
    · exact tGetIntNull H t a z ht ha a6 hr
    · exact tPutIntNull H t a z ht ha a6 hr
    · exact tCasIntNull H t a z ht ha a6 hr
  · rw [if_neg hr] at he ⊢
    obtain rfl | rfl | rfl | rfl | rfl | rfl : k = 2 ∨ k = 3 ∨ k = 4 ∨ k = 5 ∨ k = 6 ∨ k = 7 := by omega
    · rw [show fldK (z 0) = 0 by rw [hz]; rfl] at he ⊢; exact tGetBad H hlen hS t a b z ht ha a6 hb b6 hr he
    · rw [show fldK (z 0) = 0 by rw [hz]; rfl] at he ⊢; exact tPutBad H hlen hS t a b z ht ha a6 hb b6 hr he
    · rw [show fldK (z 0) = 0 by rw [hz]; rfl] at he ⊢; exact tCasBad H hlen hS t a b c z ht ha a6 hb b6 hc c6 hr he
    · rw [show fldK (z 0) = 1 by rw [hz]; rfl] at he ⊢; exact tGetIntBad H hlen hS t a z ht ha a6 hr he
    · rw [show fldK (z 0) = 1 by rw [hz]; rfl] at he ⊢; exact tPutIntBad H hlen hS t a z ht ha a6 hr he
    · rw [show fldK (z 0) = 1 by rw [hz]; rfl] at he ⊢; exact tCasIntBad H hlen hS t a z ht ha a6 hr he
end
end Go.Proofs.Ytbkaopeajjechaa
