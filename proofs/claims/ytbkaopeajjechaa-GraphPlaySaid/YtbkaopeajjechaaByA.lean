/- The walks of packages shape and layout: shapes, tables of shapes, plans. -/
import Derived.Test.YtbkaopeajjechaaProg
import Derived.Test.YtbkaopeajjechaaQl
import Derived.Laws.RangeAny
import Derived.Maps.Own
import Derived.Maps.OwnSet
import Derived.Maps.OwnOps
import Derived.Maps.Views
import Derived.Maps.Keyed
namespace Go.Proofs.Ytbkaopeajjechaa
set_option linter.unusedVariables false
set_option linter.unusedSimpArgs false
open Go.RowKit Go.Maps

/-- A letter of a shape. -/
def ltr (x : Nat) : Prop := x = 112 ∨ x = 115
/-- May a shape be? -/
def okS (s : ByteArray) : Prop := s.size ≤ 8 ∧ ∀ (i : Nat) (h : i < s.size), ltr (s[i]'h).toNat
open Classical in
noncomputable def okB (s : ByteArray) : Bool := decide (okS s)

theorem okB_yes {s : ByteArray} (h : okS s) : okB s = true := by unfold okB; simpa using h
theorem okB_no {s : ByteArray} (h : ¬ okS s) : okB s = false := by unfold okB; simpa using h

set_option maxHeartbeats 2000000 in
theorem one03_any (s : ByteArray) (w : World) (hs : s.size ≤ 9223372036854775807) :
    Calls Try.prog 93 #[.string s] w fun e w' => e = .returned (.bool (okB s)) ∧ w = w' := by
  by_cases h8 : 8 < s.size
  · have hr := hide (okB_no (s := s) (fun h => by have := h.1; omega))
    generalize okB s = R at hr ⊢
    have hres := unhide hr
    subst hres
    clear hr
    go_enter Try.func93, Try.ntmps93
    go_wp2
    go_ret
    exact ⟨rfl, rfl⟩
  · have hy : Hid ((∀ (i : Nat) (h : i < s.size), ltr (s[i]'h).toNat) → okB s = true) := hide (fun h => okB_yes ⟨by omega, h⟩)
    have hn : Hid (¬ (∀ (i : Nat) (h : i < s.size), ltr (s[i]'h).toNat) → okB s = false) := hide (fun h => okB_no (fun hh => h hh.2))
    generalize okB s = R at hy hn ⊢
    have h9 : s.size ≤ 8 := by omega
    go_enter Try.func93, Try.ntmps93
    go_wp2
    go_loop [3] (fun i => ∃ k : Nat, k ≤ s.size ∧ i = .int .i64 k ∧ Hid (∀ (j : Nat) (h : j < s.size), j < k → ltr (s[j]'h).toNat)) (fun i => s.size - (intOf i).toNat)
    case atStart => exact ⟨0, Nat.zero_le _, rfl, hide (fun j _ hj => by omega)⟩
    case round =>
      obtain ⟨k, hk, rfl, HK⟩ := hrel
      by_cases hlt : k < s.size
      · by_cases hl : ltr (s[k]'hlt).toNat
        · have HK2 : Hid (∀ (j : Nat) (h : j < s.size), j < k + 1 → ltr (s[j]'h).toNat) := hide (fun j h hj => by
            by_cases e : j = k
            · subst e; exact hl
            · exact unhide HK j h (by omega))
          unfold ltr at hl
          by_cases h1 : (s[k]'hlt).toNat = 112
          · go_wp2
            go_round
            case measure => simp [intOf]; omega
            case rel => exact ⟨k + 1, by omega, by go_num, HK2⟩
          · have h2 : (s[k]'hlt).toNat = 115 := by omega
            go_wp2
            go_round
            case measure => simp [intOf]; omega
            case rel => exact ⟨k + 1, by omega, by go_num, HK2⟩
        · have hres := unhide hn (fun h => hl (h k hlt))
          subst hres
          unfold ltr at hl
          have h1 : ¬ (s[k]'hlt).toNat = 112 := fun e => hl (.inl e)
          have h2 : ¬ (s[k]'hlt).toNat = 115 := fun e => hl (.inr e)
          have hb1 : ((((s[k]'hlt).toNat : Nat) : Int) != 112) = true := by simp; omega
          have hb2 : ((((s[k]'hlt).toNat : Nat) : Int) != 115) = true := by simp; omega
          clear hl
          go_wp2
          go_ret
          exact ⟨rfl, rfl⟩
      · have hres := unhide hy (fun i h => unhide HK i h (by omega))
        subst hres
        go_wp2
        go_ret
        exact ⟨rfl, rfl⟩

theorem key_r : Try.prog.underlying 21 = some (.int .i32) := by kernel_rfl
theorem elt_f : Try.prog.underlying 102 = some (.int .i64) := by kernel_rfl
theorem map_l : Try.prog.underlying 136 = some (.map 21 102) := by kernel_rfl
theorem zero_f (w : World) : (zeroValue 102).run Try.prog w = .ok (.int .i64 0) w := by kernel_rfl

/-- The map of the letters. -/
def LetM (W : World) (b : Nat) : Prop :=
  ∃ D : DataW Value, W.ownsMap Try.prog 21 (plainElem Try.prog 102) b 2 D ∧ IsMap D ∧ ∀ r : Int, has D (.int .i32 r) = decide (r = 112 ∨ r = 115)

theorem LetM.below {W U : World} {b : Nat} (H : LetM W b) (hb : Below W.heap.size W U) : LetM U b := by
  obtain ⟨D, h, r⟩ := H
  exact ⟨D, h.kept (row := none) ⟨hb.os, hb.tape, hb.output, hb.size, fun i hi _ => hb.block i hi⟩ (by simp), r⟩

theorem LetM.look {W : World} {b : Nat} (H : LetM W b) {r : Int} (hr : (Lit.int .i32 r).wf = true) :
    ∃ v, (Instr.lookup 136 (.map (some b)) (.int .i32 r) true).run Try.prog W = .ok (.tuple #[v, .bool (decide (r = 112 ∨ r = 115))]) W := by
  obtain ⟨D, h, _, hr2⟩ := H
  obtain ⟨v, ps, hrun, _⟩ := h.look_ok (int_keyed key_r) map_l (zero_f W) (plainElem_int elt_f (a := 0) (by decide)) (keyOf_int_mk key_r hr)
  rw [hr2 r] at hrun
  exact ⟨v, hrun⟩

set_option maxHeartbeats 1000000 in
theorem letters_any (w : World) : Calls Try.prog 76 #[] w fun e w' => e = .returned (.map (some w.heap.size)) ∧ LetM w' w.heap.size ∧ Below w.heap.size w w' := by
  have hmm := @run_makeMap Try.prog
  have h0 := (World.ownsMap_made (H := Value) w Try.prog 21 (plainElem Try.prog 102) : _)
  obtain ⟨U1, p1, o1, g1⟩ := h0.update (int_keyed key_r) map_l (by decide) (keyOf_int_mk key_r (a := 112) (by decide)) (plainElem_int elt_f (a := 0) (by decide))
  obtain ⟨U2, p2, o2, g2⟩ := o1.update (int_keyed key_r) map_l (by decide) (keyOf_int_mk key_r (a := 115) (by decide)) (plainElem_int elt_f (a := 1) (by decide))
  have HO := hide o2
  have hs1 := g1.size
  simp only [World.size_alloc] at hs1
  have B2 : Hid (Below w.heap.size w U2) := hide ((((Below.refl _ w).alloc (Nat.le_refl _) _).grown g1 (by simp) (fun r hr => by cases hr; omega)).grown g2 (by omega) (fun r hr => by cases hr; omega))
  clear h0 o1 o2 g1 g2
  go_enter Try.func76, Try.ntmps76
  go_wp2
  go_ret
  refine ⟨rfl, ⟨_, unhide HO, (IsMap.put (IsMap.put ⟨_, rfl⟩ _ _) _ _), fun r => ?_⟩, unhide B2⟩
  by_cases h1 : r = 115
  · subst h1
    rw [has_put_same (IsMap.put ⟨_, rfl⟩ _ _) (show WideAt.IsKeyLit (.int .i32 115) from trivial)]
    rfl
  · rw [has_put_other (fun h => h1 (by injection h))]
    by_cases h2 : r = 112
    · subst h2
      rw [has_put_same ⟨_, rfl⟩ (show WideAt.IsKeyLit (.int .i32 112) from trivial)]
      rfl
    · rw [has_put_other (fun h => h2 (by injection h)), show decide (r = 112 ∨ r = 115) = false by simp [h1, h2]]
      rfl

set_option maxHeartbeats 4000000 in
theorem bad_any (s : ByteArray) (w : World) (hs : s.size ≤ 9223372036854775807) :
    Calls Try.prog 75 #[.string s] w fun e w' => e = .returned (.bool (!(okB s))) ∧ Below w.heap.size w w' := by
  have hy : Hid ((∀ (i : Nat) (h : i < s.size), ltr (s[i]'h).toNat) → (!(okB s)) = decide (8 < s.size)) := hide (fun h => by
    by_cases h8 : 8 < s.size
    · rw [okB_no (fun hh => by have := hh.1; omega)]; simp [h8]
    · rw [okB_yes ⟨by omega, h⟩]; simp [h8])
  have hn : Hid (¬ (∀ (i : Nat) (h : i < s.size), ltr (s[i]'h).toNat) → (!(okB s)) = true) := hide (fun h => by rw [okB_no (fun hh => h hh.2)]; rfl)
  generalize (!(okB s)) = R at hy hn ⊢
  go_enter Try.func75, Try.ntmps75
  go_wp2_with fail
  refine (letters_any _).mono ?_
  rintro e wq ⟨rfl, hL, hb⟩
  have HL := hide hL
  have HB := hide hb
  have hsz := hb.size
  clear hL hb
  go_wp2_with fail
  go_loopw [] (fun wr => ∃ pos : Nat, pos ≤ s.size ∧ wr = wq.iter s pos ∧ Hid (∀ (j : Nat) (h : j < s.size), j < pos → ltr (s[j]'h).toNat)) (fun wr => s.size - wr.iterPos wq.heap.size)
  case atStart => exact ⟨0, Nat.zero_le _, rfl, hide (fun j _ hj => by omega)⟩
  case round =>
    obtain ⟨pos, hp, rfl, HK⟩ := hrel
    have hbi : Below wq.heap.size wq (wq.iter s pos) := by unfold World.iter; repeat (first | exact Below.refl _ _ | assumption | refine Below.alloc ?_ (by first | (simp; done) | (simp; omega) | omega) _ | refine Below.setCell ?_ (by first | (simp; done) | (simp; omega) | omega) _ | apply Below.drew | refine Below.trans ?_ (Below.mono (by assumption) (by first | (simp; done) | (simp; omega) | omega)))
    by_cases hlt : pos < s.size
    · have hnx : ∀ ty, (Instr.next (.pointer (some ⟨wq.heap.size, 0, none⟩)) true ty).run Try.prog (wq.iter s pos) = _ := fun ty => run_next_any wq s pos ty hlt
      have hbn : Below wq.heap.size wq (wq.iter s (pos + (Utf8.decode s pos).2)) := by unfold World.iter; repeat (first | exact Below.refl _ _ | assumption | refine Below.alloc ?_ (by first | (simp; done) | (simp; omega) | omega) _ | refine Below.setCell ?_ (by first | (simp; done) | (simp; omega) | omega) _ | apply Below.drew | refine Below.trans ?_ (Below.mono (by assumption) (by first | (simp; done) | (simp; omega) | omega)))
      obtain ⟨v, hlk⟩ := ((unhide HL).below hbn).look (r := (Utf8.decode s pos).1) (WalkArith.wf_i32 (by have := decode_le s pos; omega))
      by_cases hl : ltr (s[pos]'hlt).toNat
      · have HK2 : Hid (∀ (j : Nat) (h : j < s.size), j < pos + 1 → ltr (s[j]'h).toNat) := hide (fun j h hj => by
          by_cases e : j = pos
          · subst e; exact hl
          · exact unhide HK j h (by omega))
        unfold ltr at hl
        have ha := decode_ascii s pos hlt (by omega)
        rw [ha] at hnx hlk
        have hd : decide ((((s[pos]'hlt).toNat : Nat) : Int) = 112 ∨ (((s[pos]'hlt).toNat : Nat) : Int) = 115) = true := by simp; omega
        dsimp only at hlk
        rw [hd] at hlk
        clear ha hd hl hbn hbi
        go_wp2
        go_roundw
        case measure => simp; omega
        case rel => exact ⟨pos + 1, by omega, rfl, HK2⟩
      · have hres := unhide hn (fun h => hl (h pos hlt))
        subst hres
        have hd : decide (((Utf8.decode s pos).1 : Int) = 112 ∨ ((Utf8.decode s pos).1 : Int) = 115) = false := by
          unfold ltr at hl
          by_cases ha : (s[pos]'hlt).toNat < 128
          · rw [decode_ascii s pos hlt ha]; simp; omega
          · have := (decode_high s pos hlt (by omega)).1
            simp; omega
        rw [hd] at hlk
        have HBn := hide hbn
        clear hd hl hbi hbn
        go_wp2
        go_ret
        exact ⟨rfl, (unhide HB).trans ((unhide HBn).mono hsz)⟩
    · have hnx : ∀ ty, (Instr.next (.pointer (some ⟨wq.heap.size, 0, none⟩)) true ty).run Try.prog (wq.iter s pos) = _ := fun ty => run_next_end wq s pos ty hlt
      have hres := unhide hy (fun i h => unhide HK i h (by omega))
      have HR := hide hres
      have HBi := hide hbi
      clear hres hbi
      go_wp2
      go_ret
      exact ⟨ret_bool (by rw [unhide HR, Bool.eq_iff_iff]; simp only [decide_eq_true_eq]; omega), (unhide HB).trans ((unhide HBi).mono hsz)⟩

/-- The shapes lie in memory. -/
def ShOk (w : World) (A : Option Addr) (len : Nat) (S : Nat → ByteArray) : Prop :=
  0 < len → ∃ g o, A = some ⟨g, o, none⟩ ∧ g < w.heap.size ∧ ∀ i, i < len → w.cell? ⟨g, o + i, none⟩ = some (.string (S i))

theorem ShOk.keep {w W : World} {A : Option Addr} {len : Nat} {S : Nat → ByteArray} (H : ShOk w A len S) (hb : Below w.heap.size w W) : ShOk W A len S := fun h => by
  obtain ⟨g, o, hA, hl, hc⟩ := H h
  exact ⟨g, o, hA, Nat.lt_of_lt_of_le hl hb.size, fun i hi => (hb.cell (p := ⟨g, o + i, none⟩) hl).trans (hc i hi)⟩

/-- May a table be? -/
def okT (len : Nat) (S : Nat → ByteArray) : Prop := 1 ≤ len ∧ len ≤ 16 ∧ ∀ i, i < len → okS (S i)
/-- May a plan be? -/
def okP (t sp : Int) (len : Nat) (S : Nat → ByteArray) : Prop := (1 ≤ t ∧ t ≤ 8) ∧ (32 ≤ sp ∧ sp ≤ 4096) ∧ okT len S
open Classical in
noncomputable def okTB (len : Nat) (S : Nat → ByteArray) : Bool := decide (okT len S)
open Classical in
noncomputable def okPB (t sp : Int) (len : Nat) (S : Nat → ByteArray) : Bool := decide (okP t sp len S)

theorem okTB_iff {len : Nat} {S : Nat → ByteArray} : okTB len S = true ↔ okT len S := by unfold okTB; simp
theorem okPB_iff {t sp : Int} {len : Nat} {S : Nat → ByteArray} : okPB t sp len S = true ↔ okP t sp len S := by unfold okPB; simp
theorem okB_iff {s : ByteArray} : okB s = true ↔ okS s := by unfold okB; simp

set_option maxHeartbeats 2000000 in
theorem right03_any (A : Option Addr) (len cap : Nat) (S : Nat → ByteArray) (hlen : len ≤ 9223372036854775807) (hS : ∀ i, i < len → (S i).size ≤ 9223372036854775807) (w : World) (H : ShOk w A len S) :
    Calls Try.prog 68 #[.slice A len cap] w fun e w' => e = .returned (.bool (okTB len S)) ∧ w = w' := by
  by_cases h1 : len < 1
  · have hr := hide (show okTB len S = false by rw [Bool.eq_false_iff, Ne, okTB_iff]; exact fun h => by have := h.1; omega)
    generalize okTB len S = R at hr ⊢
    have hres := unhide hr
    subst hres
    clear hr
    go_enter Try.func68, Try.ntmps68
    go_wp2
    go_ret
    exact ⟨rfl, rfl⟩
  by_cases h2 : 16 < len
  · have hr := hide (show okTB len S = false by rw [Bool.eq_false_iff, Ne, okTB_iff]; exact fun h => by have := h.2.1; omega)
    generalize okTB len S = R at hr ⊢
    have hres := unhide hr
    subst hres
    clear hr
    go_enter Try.func68, Try.ntmps68
    go_wp2
    go_ret
    exact ⟨rfl, rfl⟩
  have h1b : 1 ≤ len := by omega
  have h2b : len ≤ 16 := by omega
  obtain ⟨g, o, rfl, hg, hc⟩ := H (by omega)
  have HC := hide hc
  have HSz := hide hS
  have hy : Hid ((∀ i, i < len → okB (S i) = true) → okTB len S = true) := hide (fun h => okTB_iff.2 ⟨h1b, h2b, fun i hi => okB_iff.1 (h i hi)⟩)
  have hn : Hid (∀ i, i < len → okB (S i) = false → okTB len S = false) := hide (fun i hi h => by
    rw [Bool.eq_false_iff, Ne, okTB_iff]
    exact fun hh => by have := okB_iff.2 (hh.2.2 i hi); rw [h] at this; cases this)
  generalize okTB len S = R at hy hn ⊢
  clear hc hS H
  go_enter Try.func68, Try.ntmps68
  go_wp2
  go_loop [3] (fun i => ∃ k : Nat, k ≤ len ∧ i = .int .i64 k ∧ Hid (∀ j, j < k → okB (S j) = true)) (fun i => len - (intOf i).toNat)
  case atStart => exact ⟨0, Nat.zero_le _, rfl, hide (fun j hj => by omega)⟩
  case round =>
    obtain ⟨k, hk, rfl, HK⟩ := hrel
    by_cases hlt : k < len
    · have hcell := unhide HC k hlt
      have hone := hide (one03_any (S k) w (unhide HSz k hlt))
      have b0 : (0 : Int) ≤ (k : Int) := by omega
      have b1 : (k : Int) < (len : Int) := by omega
      cases e : okB (S k) with
      | true =>
        have HK2 : Hid (∀ j, j < k + 1 → okB (S j) = true) := hide (fun j hj => by
          by_cases h : j = k
          · subst h; exact e
          · exact unhide HK j (by omega))
        rw [e] at hone
        clear e
        go_wp2_with fail
        refine (unhide hone).mono ?_
        rintro e w' ⟨rfl, rfl⟩
        go_wp2
        go_round
        case measure => simp [intOf]; omega
        case rel => exact ⟨k + 1, by omega, by go_num, HK2⟩
      | false =>
        have hres := unhide hn k hlt e
        subst hres
        rw [e] at hone
        clear e
        go_wp2_with fail
        refine (unhide hone).mono ?_
        rintro e w' ⟨rfl, rfl⟩
        go_wp2
        go_ret
        exact ⟨rfl, rfl⟩
    · have hres := unhide hy (fun i hi => unhide HK i (by omega))
      subst hres
      go_wp2
      go_ret
      exact ⟨rfl, rfl⟩

/-- The first shape that may not be, below n. -/
noncomputable def badAt (S : Nat → ByteArray) : Nat → Nat → Int
  | 0, _ => -1
  | m + 1, k => if okB (S k) = false then (k : Int) else badAt S m (k + 1)

theorem badAt_none {S : Nat → ByteArray} : ∀ m k, (∀ i, k ≤ i → i < k + m → okB (S i) = true) → badAt S m k = -1
  | 0, _, _ => rfl
  | m + 1, k, h => by
    rw [badAt, if_neg (by rw [h k (Nat.le_refl _) (by omega)]; simp), badAt_none m (k + 1) (fun i h1 h2 => h i (by omega) (by omega))]
theorem badAt_some {S : Nat → ByteArray} : ∀ m k i, k ≤ i → i < k + m → okB (S i) = false → 0 ≤ badAt S m k
  | 0, _, i, h1, h2, _ => by omega
  | m + 1, k, i, h1, h2, h => by
    rw [badAt]
    split
    · omega
    · rename_i hk
      by_cases e : i = k
      · subst e; exact absurd h hk
      · exact badAt_some m (k + 1) i (by omega) (by omega) h

set_option maxHeartbeats 2000000 in
theorem index_any (A : Option Addr) (len cap : Nat) (S : Nat → ByteArray) (hlen : len ≤ 9223372036854775807) (hS : ∀ i, i < len → (S i).size ≤ 9223372036854775807) (w : World) (H : ShOk w A len S) :
    Calls Try.prog 99 #[.slice A len cap, .func (.func 75) #[] #[]] w fun e w' => e = .returned (.int .i64 (badAt S len 0)) ∧ Below w.heap.size w w' := by
  have HH := hide (fun W (hW : Below w.heap.size w W) => H.keep hW)
  have HSz := hide hS
  clear H hS
  go_enter Try.func99, Try.ntmps99
  go_wp2
  go_loopw [8] (fun i wr => ∃ k m : Nat, k + m = len ∧ i = .int .i64 k ∧ Hid (badAt S len 0 = badAt S m k) ∧ Below w.heap.size w wr) (fun i _ => len - (intOf i).toNat)
  case atStart => exact ⟨0, len, by omega, rfl, hide rfl, Below.refl _ _⟩
  case round =>
    obtain ⟨k, m, hk, rfl, HK, hB⟩ := hrel
    by_cases hlt : k < len
    · obtain ⟨g, o, rfl, hg, hc⟩ := unhide HH _ hB (by omega)
      have hcell := hc k hlt
      have hbad := hide (bad_any (S k) wr (unhide HSz k hlt))
      have b0 : (0 : Int) ≤ (k : Int) := by omega
      have b1 : (k : Int) < (len : Int) := by omega
      have hsz := hB.size
      clear hc
      obtain ⟨m', rfl⟩ : ∃ m', m = m' + 1 := ⟨m - 1, by omega⟩
      cases e : okB (S k) with
      | true =>
        have HK2 : Hid (badAt S len 0 = badAt S m' (k + 1)) := hide (by rw [unhide HK, badAt, if_neg (by rw [e]; simp)])
        rw [e] at hbad
        clear e
        go_wp2_with fail
        refine (unhide hbad).mono ?_
        rintro e w2 ⟨rfl, hb2⟩
        have hB2 : Below w.heap.size w w2 := hB.trans (hb2.mono hsz)
        clear hb2
        go_wp2
        go_roundw
        case measure => simp [intOf]; omega
        case rel => exact ⟨k + 1, m', by omega, by go_num, HK2, hB2⟩
      | false =>
        have HK2 : Hid (badAt S len 0 = (k : Int)) := hide (by rw [unhide HK, badAt, if_pos e])
        rw [e] at hbad
        clear e
        go_wp2_with fail
        refine (unhide hbad).mono ?_
        rintro e w2 ⟨rfl, hb2⟩
        have hB2 : Below w.heap.size w w2 := hB.trans (hb2.mono hsz)
        clear hb2
        go_wp2
        go_ret
        exact ⟨ret_int (unhide HK2).symm, hB2⟩
    · obtain rfl : m = 0 := by omega
      have HK2 : Hid (badAt S len 0 = -1) := hide (by rw [unhide HK, badAt])
      go_wp2
      go_ret
      exact ⟨ret_int (unhide HK2).symm, hB⟩

set_option maxHeartbeats 2000000 in
theorem contains_any (A : Option Addr) (len cap : Nat) (S : Nat → ByteArray) (hlen : len ≤ 9223372036854775807) (hS : ∀ i, i < len → (S i).size ≤ 9223372036854775807) (w : World) (H : ShOk w A len S) :
    Calls Try.prog 80 #[.slice A len cap, .func (.func 75) #[] #[]] w fun e w' => e = .returned (.bool (decide (0 ≤ badAt S len 0))) ∧ Below w.heap.size w w' := by
  have c := hide (index_any A len cap S hlen hS w H)
  clear H hS
  generalize badAt S len 0 = z at c ⊢
  go_enter Try.func80, Try.ntmps80
  go_wp2_with fail
  refine (unhide c).mono ?_
  rintro e w2 ⟨rfl, hb2⟩
  go_wp2
  go_ret
  exact ⟨rfl, hb2⟩

theorem okT_bad {len : Nat} {S : Nat → ByteArray} (h1 : 1 ≤ len) (h2 : len ≤ 16) : okTB len S = !(decide (0 ≤ badAt S len 0)) := by
  by_cases h : ∀ i, i < len → okB (S i) = true
  · rw [okTB_iff.2 ⟨h1, h2, fun i hi => okB_iff.1 (h i hi)⟩, badAt_none len 0 (fun i _ hi => h i (by omega))]
    simp
  · have : ∃ i, i < len ∧ okB (S i) = false := Classical.byContradiction fun hh => h (fun i hi => Classical.byContradiction fun h3 => hh ⟨i, hi, by simpa using h3⟩)
    obtain ⟨i, hi, e⟩ := this
    have hz := badAt_some len 0 i (Nat.zero_le _) (by omega) e
    rw [show okTB len S = false by rw [Bool.eq_false_iff, Ne, okTB_iff]; exact fun hh => by have := okB_iff.2 (hh.2.2 i hi); rw [e] at this; cases this]
    simp [hz]

set_option maxHeartbeats 2000000 in
theorem shapeChk_any (A : Option Addr) (len cap : Nat) (S : Nat → ByteArray) (hlen : len ≤ 9223372036854775807) (hS : ∀ i, i < len → (S i).size ≤ 9223372036854775807) (w : World) (H : ShOk w A len S) :
    Calls Try.prog 51 #[.slice A len cap] w fun e w' => e = .returned (.int .i64 (if okTB len S = true then 0 else 2)) ∧ Below w.heap.size w w' := by
  by_cases h1 : len < 1
  · rw [if_neg (by rw [okTB_iff]; exact fun h => by have := h.1; omega)]
    go_enter Try.func51, Try.ntmps51
    go_wp2
    go_ret
    exact ⟨rfl, Below.refl _ _⟩
  by_cases h2 : 16 < len
  · rw [if_neg (by rw [okTB_iff]; exact fun h => by have := h.2.1; omega)]
    go_enter Try.func51, Try.ntmps51
    go_wp2
    go_ret
    exact ⟨rfl, Below.refl _ _⟩
  have h1b : 1 ≤ len := by omega
  have h2b : len ≤ 16 := by omega
  have c := hide (contains_any A len cap S hlen hS w H)
  rw [okT_bad h1b h2b]
  clear H hS
  cases e : decide (0 ≤ badAt S len 0) with
  | true =>
    rw [e] at c
    clear e
    go_enter Try.func51, Try.ntmps51
    go_wp2_with fail
    refine (unhide c).mono ?_
    rintro e w2 ⟨rfl, hb2⟩
    go_wp2
    go_ret
    exact ⟨rfl, hb2⟩
  | false =>
    rw [e] at c
    clear e
    go_enter Try.func51, Try.ntmps51
    go_wp2_with fail
    refine (unhide c).mono ?_
    rintro e w2 ⟨rfl, hb2⟩
    go_wp2
    go_ret
    exact ⟨rfl, hb2⟩
end Go.Proofs.Ytbkaopeajjechaa
