/- The walks of package graph: New. -/
import Derived.Test.YtbkaopeajjechaaGrZ
namespace Go.Proofs.Ytbkaopeajjechaa
set_option linter.unusedVariables false
set_option linter.unusedSimpArgs false
open Go.RowKit Go.Maps

section
variable {T : Nat} {sp : Int} {len : Nat} {S : Nat → ByteArray}

set_option maxRecDepth 100000 in
set_option maxHeartbeats 4000000 in
theorem new_no (t : Int) (A : Option Addr) (cap : Nat) (w : World) (H : ShOk w A len S) (hlen : len ≤ 9223372036854775807) (hS : ∀ i, i < len → (S i).size ≤ 9223372036854775807) (hok : okPB t sp len S = false) :
    Calls Try.prog 10 #[.agg #[.int .i64 t, .int .i64 sp, .slice A len cap]] w fun e w' => e = .returned (.tuple #[.pointer none, .int .i64 2]) ∧ Below w.heap.size w w' := by
  have c1 := hide (fun W (hW : Below w.heap.size w W) => layChk_any t sp A len cap S hlen hS W (H.keep hW))
  rw [hok, if_neg (by simp)] at c1
  clear H hS hok
  go_enter Try.func10, Try.ntmps10
  go_wp2_with fail
  go_wp2_with fail
  refine (unhide c1 _ (by repeat (first | exact Below.refl _ _ | assumption | refine Below.alloc ?_ (by first | (simp; done) | (simp; omega) | omega) _ | refine Below.setCell ?_ (by first | (simp; done) | (simp; omega) | omega) _ | apply Below.drew | refine Below.trans ?_ (Below.mono (by assumption) (by first | (simp; done) | (simp; omega) | omega))))).mono ?_
  rintro e w2 ⟨rfl, hb2⟩
  have hB2 : Below w.heap.size w w2 := by repeat (first | exact Below.refl _ _ | assumption | refine Below.alloc ?_ (by first | (simp; done) | (simp; omega) | omega) _ | refine Below.setCell ?_ (by first | (simp; done) | (simp; omega) | omega) _ | apply Below.drew | refine Below.trans ?_ (Below.mono (by assumption) (by first | (simp; done) | (simp; omega) | omega)))
  clear c1 hb2
  go_wp2
  (try (go_step3; refine fwd_goto ?_; go_wp2))
  (first | rw [fwd_ret] | rw [Exit.noGoto_ret] | skip)
  refine bodyPost_ret (v := .tuple #[.pointer none, .int .i64 2]) (by simp only [results, Try.results10]; go_simp) rfl ?_
  exact ⟨rfl, by repeat (first | exact Below.refl _ _ | assumption | refine Below.alloc ?_ (by first | (simp; done) | (simp; omega) | omega) _ | refine Below.setCell ?_ (by first | (simp; done) | (simp; omega) | omega) _ | apply Below.drew | refine Below.trans ?_ (Below.mono (by assumption) (by first | (simp; done) | (simp; omega) | omega)))⟩

theorem new_cells (w : World) (l : List Value) (t : TypeId) : ∀ (j : Nat) u, l[j]? = some u → (w.alloc (.cells l.toArray t)).cell? ((⟨w.heap.size, 0, none⟩ : Addr).add j) = some u := fun j u h => by
  rw [add_zero', Nat.zero_add]
  rw [Lib.cell_of_heap (MapKept.heap_alloc w _).1]
  simpa using h

/-- The first slots of so many threads. -/
def rw6 (p : Value) : Nat → List Value
  | 0 => []
  | k + 1 => rw6 p k ++ [p, .pointer none, .pointer none, .pointer none, .pointer none, .pointer none]
theorem rw6_len (p : Value) : ∀ k, (rw6 p k).length = k * 6
  | 0 => rfl
  | k + 1 => by simp [rw6, rw6_len p k]; omega
theorem rw6_at (p : Value) (s : Nat) (hs : s < 6) : ∀ k t, t < k → (rw6 p k)[t * 6 + s]? = some (if s = 0 then p else .pointer none)
  | k + 1, t, ht => by
    rcases Nat.lt_or_ge t k with h | h
    · rw [rw6, List.getElem?_append_left (by rw [rw6_len]; omega)]
      exact rw6_at p s hs k t h
    · obtain rfl : t = k := by omega
      rw [rw6, List.getElem?_append_right (by rw [rw6_len]; omega), rw6_len, Nat.add_sub_cancel_left]
      match s, hs with
      | 0, _ => rfl
      | 1, _ => rfl
      | 2, _ => rfl
      | 3, _ => rfl
      | 4, _ => rfl
      | 5, _ => rfl

set_option maxRecDepth 100000 in
set_option maxHeartbeats 4000000 in
theorem new_ok (A : Option Addr) (cap : Nat) (w : World) (H : ShOk w A len S) (hok : okPB T sp len S = true) :
    Calls Try.prog 10 #[.agg #[.int .i64 T, .int .i64 sp, .slice A len cap]] w fun e w' => ∃ L, e = .returned (.tuple #[.pointer (some ⟨L.g, 0, none⟩), .int .i64 0]) ∧ IsG T sp len S w' L Gr.new 1 ∧ Below w.heap.size w w' ∧ (∀ b, L.own b → w.heap.size ≤ b) ∧ (∀ b, L.shA = some b → w.heap.size ≤ b.block) := by
  have hP : okP T sp len S := by
    have h := hok
    unfold okPB at h
    simpa using h
  obtain ⟨⟨hT1, hT8⟩, hsp, h1, h16, hS8⟩ := hP
  have c1 := hide (fun W (hW : Below w.heap.size w W) => layChk_any T sp A len cap S (by omega) (fun i hi => by have := (hS8 i hi).1; omega) W (H.keep hW))
  rw [hok, if_pos rfl] at c1
  have c2 := hide (fun W (hW : Below w.heap.size w W) => cloneS A len cap ((List.range len).map fun i => .string (S i)) W (by simp) (by simp [Value.oneCell']) (fun hl => by
    obtain ⟨g, o, e, _, hc⟩ := (H.keep hW) hl
    refine ⟨g, o, e, fun j u hu => ?_⟩
    obtain ⟨hj, rfl⟩ := List.getElem?_eq_some_iff.1 hu
    have hj : j < len := by simpa using hj
    rw [hc j hj]
    simp) (by omega))
  have HT := hide hok
  have H8 := hide hS8
  clear H hok hS8
  go_enter Try.func10, Try.ntmps10
  go_wp2_with fail
  refine (unhide c1 _ (by repeat (first | exact Below.refl _ _ | assumption | refine Below.alloc ?_ (by first | (simp; done) | (simp; omega) | omega) _ | refine Below.setCell ?_ (by first | (simp; done) | (simp; omega) | omega) _ | apply Below.drew | refine Below.trans ?_ (Below.mono (by assumption) (by first | (simp; done) | (simp; omega) | omega))))).mono ?_
  rintro e w2 ⟨rfl, hb2⟩
  have hB2 : Below w.heap.size w w2 := by repeat (first | exact Below.refl _ _ | assumption | refine Below.alloc ?_ (by first | (simp; done) | (simp; omega) | omega) _ | refine Below.setCell ?_ (by first | (simp; done) | (simp; omega) | omega) _ | apply Below.drew | refine Below.trans ?_ (Below.mono (by assumption) (by first | (simp; done) | (simp; omega) | omega)))
  have hz2 := hb2.size
  simp only [World.size_alloc] at hz2
  have k0 := (hb2.cell (p := ⟨w.heap.size, 0, none⟩) (by simp)).trans (show _ = some (Value.int .i64 _) by go_simp; first | rfl | exact rfl)
  have k1 := (hb2.cell (p := ⟨w.heap.size, 1, none⟩) (by simp)).trans (show _ = some (Value.int .i64 _) by go_simp; first | rfl | exact rfl)
  have k2 := (hb2.cell (p := ⟨w.heap.size, 2, none⟩) (by simp)).trans (show _ = some (Value.slice A len cap) by go_simp)
  have f2 := (hb2.frozen (p := ⟨w.heap.size, 2, none⟩) (by simp)).trans (show _ = false by go_simp)
  clear c1 hb2
  go_wp2_with fail
  refine (unhide c2 _ hB2).mono ?_
  rintro e w3 ⟨v3, rfl, hb3, ho3⟩
  obtain ⟨A3, c3, rfl, hfm⟩ := row_form (xs := (List.range len).map fun i => Value.string (S i)) (by rw [List.length_map, List.length_range]; exact ho3)
  rw [List.length_map, List.length_range]
  have hz3 := hb3.size
  have hB3 : Below w.heap.size w w3 := hB2.trans (hb3.mono (by omega))
  have l0 : w.heap.size < w2.heap.size := by omega
  have k0 := (hb3.cell (p := ⟨w.heap.size, 0, none⟩) l0).trans k0
  have k1 := (hb3.cell (p := ⟨w.heap.size, 1, none⟩) l0).trans k1
  have k2 := (hb3.cell (p := ⟨w.heap.size, 2, none⟩) l0).trans k2
  have f2 := (hb3.frozen (p := ⟨w.heap.size, 2, none⟩) l0).trans f2
  have hsh : Hid (0 < len → ∃ g, A3 = some ⟨g, 0, none⟩ ∧ w2.heap.size ≤ g ∧ g < w3.heap.size ∧ ∀ i, i < len → w3.cell? ⟨g, i, none⟩ = some (.string (S i))) := hide (fun hl => by
    obtain ⟨g, hg, _, cur, hcur⟩ := hfm 0 (.string (S 0)) (by simp [hl])
    refine ⟨g, hg, (ho3.lt g (by rw [hg]; rfl)).1, (Array.getElem?_eq_some_iff.1 hcur).1, fun i hi => ?_⟩
    obtain ⟨g', hg', hc, _⟩ := hfm i (.string (S i)) (by simp [hi])
    rw [hg] at hg'
    injection hg' with hg'
    injection hg' with hg' _ _
    subst hg'
    exact hc)
  clear ho3 hfm hb3 c2
  go_wp2_with fail
  generalize hW4 : w3.setCell ⟨w.heap.size, 2, none⟩ (.slice A3 len c3) = w4
  have hz4 : w4.heap.size = w3.heap.size := by rw [← hW4, World.size_setCell]
  have hsh4 : ShOk w4 A3 len S := fun hl => by
    obtain ⟨g, hg, h1, h2, h3⟩ := unhide hsh hl
    refine ⟨g, 0, hg, by omega, fun i hi => ?_⟩
    rw [Nat.zero_add, ← hW4, set_other _ (.inl (by omega))]
    exact h3 i hi
  have hB4 : Below w.heap.size w w4 := by rw [← hW4]; exact hB3.setCell (p := ⟨w.heap.size, 2, none⟩) (Nat.le_refl _) _
  have k0 : w4.cell? ⟨w.heap.size, 0, none⟩ = some (.int .i64 T) := by rw [← hW4, set_other _ (.inr (by omega))]; exact k0
  have k1 : w4.cell? ⟨w.heap.size, 1, none⟩ = some (.int .i64 sp) := by rw [← hW4, set_other _ (.inr (by omega))]; exact k1
  have k2 : w4.cell? ⟨w.heap.size, 2, none⟩ = some (.slice A3 len c3) := by rw [← hW4]; exact set_same _ k2
  have hsg : Hid (∀ b, A3 = some b → w2.heap.size ≤ b.block ∧ b.block < w4.heap.size) := hide (fun b hb => by
    obtain ⟨g, hg, h1, h2, h3⟩ := unhide hsh (by omega)
    rw [hb] at hg
    injection hg with hg
    subst hg
    exact ⟨h1, by show g < _; omega⟩)
  clear hW4 hsh f2
  refine (made_any (S := S) A3 c3 T sp 0 w4 hsh4 (by omega) (unhide H8 0 (by omega)).1 h16).mono ?_
  rintro e w5 ⟨⟨a, hb, ib, hc, ic, rfl, HN⟩, hb5⟩
  have hz5 := hb5.size
  have HN := hide HN
  have hsh5 := hide (hsh4.keep hb5)
  have hB5 : Below w.heap.size w w5 := hB4.trans (hb5.mono (by omega))
  have k0 := (hb5.cell (p := ⟨w.heap.size, 0, none⟩) (by show w.heap.size < _; omega)).trans k0
  have k1 := (hb5.cell (p := ⟨w.heap.size, 1, none⟩) (by show w.heap.size < _; omega)).trans k1
  have k2 := (hb5.cell (p := ⟨w.heap.size, 2, none⟩) (by show w.heap.size < _; omega)).trans k2
  clear hsh4 hb5
  have l5 : w.heap.size < w5.heap.size := by omega
  go_wp2
  generalize hW6 : w5.alloc (.cells #[.int .i64 T, .int .i64 sp, .slice A3 len c3, .slice none 0 0, .int .i64 1] 64) = w6
  have hz6 : w6.heap.size = w5.heap.size + 1 := by rw [← hW6]; simp
  have hB6 : Below w5.heap.size w5 w6 := by rw [← hW6]; repeat (first | exact Below.refl _ _ | assumption | refine Below.alloc ?_ (by first | (simp; done) | (simp; omega) | omega) _ | refine Below.setCell ?_ (by first | (simp; done) | (simp; omega) | omega) _ | apply Below.drew | refine Below.trans ?_ (Below.mono (by assumption) (by first | (simp; done) | (simp; omega) | omega)))
  have hi6 : w6.heap[w5.heap.size]? = some (.cells #[.int .i64 T, .int .i64 sp, .slice A3 len c3, .slice none 0 0, .int .i64 1] 64 (0, 0)) := by rw [← hW6]; exact (MapKept.heap_alloc w5 _).1
  have g0 : w6.cell? ⟨w5.heap.size, 0, none⟩ = some (.int .i64 T) := by rw [Lib.cell_of_heap hi6]; rfl
  have g1 : w6.cell? ⟨w5.heap.size, 1, none⟩ = some (.int .i64 sp) := by rw [Lib.cell_of_heap hi6]; rfl
  have g2 : w6.cell? ⟨w5.heap.size, 2, none⟩ = some (.slice A3 len c3) := by rw [Lib.cell_of_heap hi6]; rfl
  have g3 : w6.cell? ⟨w5.heap.size, 3, none⟩ = some (.slice none 0 0) := by rw [Lib.cell_of_heap hi6]; rfl
  have g4 : w6.cell? ⟨w5.heap.size, 4, none⟩ = some (.int .i64 1) := by rw [Lib.cell_of_heap hi6]; rfl
  have hfz : ∀ i, w6.frozen? ⟨w5.heap.size, i, none⟩ = false := fun i => by simp [World.frozen?, hi6]
  clear hi6 hW6 k0 k1 k2
  obtain ⟨i0, hi, hz0, hz1, hz3'⟩ := inf_cloneR
  go_loopw [23] (fun i wr => ∃ (k : Nat) (v : Value), k ≤ T ∧ i = .int .i64 k ∧ Hid (wr.ownsRow w6.heap.size 74 6 v k (rw6 (.pointer (some ⟨a, 0, none⟩)) k)) ∧ wr.cell? ⟨w5.heap.size, 3, none⟩ = some v ∧ (∀ i, wr.frozen? ⟨w5.heap.size, i, none⟩ = false) ∧ Chg (fun c => c = w5.heap.size) w6 wr ∧ (∀ i, i ≠ 3 → wr.cell? ⟨w5.heap.size, i, none⟩ = w6.cell? ⟨w5.heap.size, i, none⟩)) (fun i _ => T - (intOf i).toNat)
  case atStart => exact ⟨0, _, Nat.zero_le _, rfl, hide (World.ownsRow_nil _ _ _ _), g3, hfz, Chg.refl _ _, fun _ _ => rfl⟩
  case round =>
    obtain ⟨k, v, hk, rfl, hO, q3, qf, hC, hcs⟩ := hrel
    have hzr := hC.size
    by_cases hlt : k < T
    · have hown : ∀ j, v.ownBlock = some j → w6.heap.size ≤ j := fun j hj => ((unhide hO).lt j hj).1
      have lg : w5.heap.size < wr.heap.size := by omega
      go_wp2_with (at_builtin; refine wpList_append_own _ rfl (.tmp 29) (.tmp 32) _ rfl w6.heap.size 74 i0 (.agg #[.pointer none, .pointer none, .pointer none, .pointer none, .pointer none, .pointer none]) 6 48 Try.underlying62 hi hz0 hz1 hz3' rfl (by decide) _ _ _ rfl ((unhide hO).alloc _) ⟨wr.heap.size, 0, none⟩ 1 1 [.pointer (some ⟨a, 0, none⟩), .pointer none, .pointer none, .pointer none, .pointer none, .pointer none] rfl rfl ?c1 ?c2 ?c3 ?c4 ?c5 ?_)
      case c1 => exact new_cells wr _ _
      case c2 => simp [Value.oneCell']
      case c3 => simp only [maxLen]; omega
      case c4 => omega
      case c5 => simp; omega
      intro v' w7 how hgr _
      have hc7 : Chg (fun c => v.ownBlock = some c) wr w7 := ((Chg.refl _ _).alloc _).trans (grow_chg hgr)
      have hz7 := hc7.size
      have nz : ¬ v.ownBlock = some w5.heap.size := fun h => by have := hown _ h; omega
      have q3 := (hc7.cell (o := 3) lg nz).trans q3
      have qf7 : ∀ i, w7.frozen? ⟨w5.heap.size, i, none⟩ = false := fun i => (hc7.frozen (o := i) lg nz).trans (qf i)
      have qf3 := qf7 3
      have hcs7 : ∀ i, i ≠ 3 → w7.cell? ⟨w5.heap.size, i, none⟩ = w6.cell? ⟨w5.heap.size, i, none⟩ := fun i hi => (hc7.cell (o := i) lg nz).trans (hcs i hi)
      have hC7 : Chg (fun c => c = w5.heap.size) w6 w7 := ⟨hc7.os.trans hC.os, hc7.tape.trans hC.tape, hc7.output.trans hC.output, by omega, fun j hj hne => (hc7.block j (by omega) (fun h => by have := hown j h; omega)).trans (hC.block j hj hne)⟩
      have HR := hide (how.kept (set_grown w7 w5.heap.size 3 v') (by
        cases e : v'.ownBlock with
        | none => exact .inl rfl
        | some j => exact .inr (fun h => by injection h with h; have := (how.lt j e).1; omega)))
      have h3f : (∃ A n c, v' = .slice A n c) := by
        rcases how.2 with ⟨e, _⟩ | ⟨g9, c9, _, e, _⟩
        · exact ⟨_, _, _, e⟩
        · exact ⟨_, _, _, e⟩
      obtain ⟨A7, n7, c7, rfl⟩ := h3f
      clear how hgr hc7 hcs
      go_wp2
      go_roundw
      case measure => simp [intOf]; omega
      case rel =>
        refine ⟨k + 1, _, by omega, by go_num, hide (by rw [hz6]; exact unhide HR), set_same _ q3, fun i => by rw [World.frozen?_setCell]; exact qf7 i, hC7.set (.inr rfl) _, fun i hi => ?_⟩
        rw [set_other _ (.inr hi)]
        exact hcs7 i hi
    · obtain rfl : T = k := by omega
      have hO' := hide (unhide hO)
      have HCS := hide hcs
      clear hcs
      go_wp2
      refine bodyPost_ret (v := .tuple #[.pointer (some ⟨w5.heap.size, 0, none⟩), .int .i64 0]) (by simp only [results, Try.results10]; go_simp) rfl ?_
      obtain ⟨rb, rcap, rfl, hrb, hrl, hrc⟩ : ∃ rb rcap, v = .slice (some ⟨rb, 0, none⟩) T rcap ∧ w5.heap.size + 1 ≤ rb ∧ rb < wr.heap.size ∧ ∀ t s, t < T → s < 6 → wr.cell? ⟨rb, t * 6 + s, none⟩ = some (if s = 0 then .pointer (some ⟨a, 0, none⟩) else .pointer none) ∧ wr.frozen? ⟨rb, t * 6 + s, none⟩ = false := by
        have hh := unhide hO
        rcases hh.2 with ⟨_, e⟩ | ⟨rb, rcap, cur, e, hb1, hg, _⟩
        · omega
        · refine ⟨rb, rcap, e, by omega, (Array.getElem?_eq_some_iff.1 hg).1, fun t s ht hs => ⟨?_, by simp [World.frozen?, hg]⟩⟩
          have := hh.cells (g := rb) (by rw [e]; rfl) (t * 6 + s) _ (rw6_at _ s hs T t ht)
          rwa [add_zero', Nat.zero_add] at this
      have HN := unhide HN
      obtain ⟨⟨n1, n2, n3, n4, n5, n6⟩, ⟨n7, n8, n9⟩, nc, nc0, nc1, nc2, nh, ni⟩ := HN
      have hB56 : Below w5.heap.size w5 wr := hB6.trans (hC.below (fun i e => by omega) (by omega))
      let L : Lay := { g := w5.heap.size, rb := rb, rcap := rcap, shA := A3, shcap := c3, adr := fun _ => a, hb := fun _ => hb, hA := fun _ => some ⟨hb, 0, none⟩, hc := fun _ => hc, ib := fun _ => ib, iA := fun _ => some ⟨ib, 0, none⟩, ic := fun _ => ic, dom := fun x => x = 1, tag := fun b => if b = w5.heap.size then .gr else if b = rb then .ro else if b = a then .ob 1 else if b = hb then .he 1 else if b = ib then .it 1 else .no }
      have ow : ∀ b, L.own b → w4.heap.size ≤ b ∧ b < wr.heap.size := fun b h => by
        rcases Nat.lt_or_ge b w4.heap.size with h' | h'
        · exact absurd (show L.tag b = .no from by
            show (if b = w5.heap.size then Tg.gr else if b = rb then .ro else if b = a then .ob 1 else if b = hb then .he 1 else if b = ib then .it 1 else .no) = .no
            rw [if_neg (by omega), if_neg (by omega), if_neg (by omega), if_neg (by omega), if_neg (by omega)]) h
        · refine ⟨h', ?_⟩
          rcases Nat.lt_or_ge b wr.heap.size with h2 | h2
          · exact h2
          · exact absurd (show L.tag b = .no from by
              show (if b = w5.heap.size then Tg.gr else if b = rb then .ro else if b = a then .ob 1 else if b = hb then .he 1 else if b = ib then .it 1 else .no) = .no
              rw [if_neg (by omega), if_neg (by omega), if_neg (by omega), if_neg (by omega), if_neg (by omega)]) h
      have hcell : ∀ b o v, b < w5.heap.size → w5.cell? ⟨b, o, none⟩ = some v → wr.cell? ⟨b, o, none⟩ = some v := fun b o v h1 h2 => (hB56.cell (p := ⟨b, o, none⟩) h1).trans h2
      have hfr : ∀ b o, b < w5.heap.size → w5.frozen? ⟨b, o, none⟩ = false → wr.frozen? ⟨b, o, none⟩ = false := fun b o h1 h2 => (hB56.frozen (p := ⟨b, o, none⟩) h1).trans h2
      have hcs := unhide HCS
      refine ⟨L, rfl, ?_, hB5.trans (hB56.mono (by omega)), fun b h => by have := (ow b h).1; omega, fun b h => by have := (unhide hsg b h).1; omega⟩
      have tg : L.tag w5.heap.size = .gr := by show (if w5.heap.size = w5.heap.size then Tg.gr else _) = .gr; rw [if_pos rfl]
      have tr : L.tag rb = .ro := by
        show (if rb = w5.heap.size then Tg.gr else if rb = rb then .ro else _) = .ro
        rw [if_neg (by omega), if_pos rfl]
      have ta : L.tag a = .ob 1 := by
        show (if a = w5.heap.size then Tg.gr else if a = rb then .ro else if a = a then .ob 1 else _) = .ob 1
        rw [if_neg (by omega), if_neg (by omega), if_pos rfl]
      have th : L.tag hb = .he 1 := by
        show (if hb = w5.heap.size then Tg.gr else if hb = rb then .ro else if hb = a then .ob 1 else if hb = hb then .he 1 else _) = .he 1
        rw [if_neg (by omega), if_neg (by omega), if_neg (by omega), if_pos rfl]
      have ti : L.tag ib = .it 1 := by
        show (if ib = w5.heap.size then Tg.gr else if ib = rb then .ro else if ib = a then .ob 1 else if ib = hb then .he 1 else if ib = ib then .it 1 else .no) = .it 1
        rw [if_neg (by omega), if_neg (by omega), if_neg (by omega), if_neg (by omega), if_pos rfl]
      have hsh : Gr.new.sh 1 = 0 := rfl
      refine ⟨⟨⟨h1, h16, unhide H8⟩, fun t s _ _ => ?_, fun x _ _ => by show 0 < len; omega, fun x f _ _ _ _ => ⟨Int.le_refl 0, by show (0 : Int) ≤ 1; omega⟩⟩, (hcs 0 (by omega)).trans g0, (hcs 1 (by omega)).trans g1, (hcs 2 (by omega)).trans g2, q3, (hcs 4 (by omega)).trans g4, ?_, tg, tr, (unhide hsh5).keep hB56, fun b hb => ?_, fun t s ht hs => ?_, fun t s ht hs => ?_, fun x hx => ?_, fun b h => (ow b h).2, ⟨by omega, by omega⟩⟩
      · show (if s = 0 then 1 else 0) ≤ 1
        split <;> omega
      · exact qf 4
      · exact Classical.byContradiction fun h => by have h2 := (ow _ h).1; have := (unhide hsg b hb).2; omega
      · obtain ⟨r1, r2⟩ := hrc t s ht hs
        refine ⟨r1.trans ?_, r2⟩
        show some _ = some (L.ptr (if s = 0 then 1 else 0))
        by_cases e : s = 0
        · rw [if_pos e, if_pos e]; rfl
        · rw [if_neg e, if_neg e]; rfl
      · show (if s = 0 then 1 else 0) = 0 ∨ (if s = 0 then 1 else 0) = 1
        by_cases e : s = 0
        · rw [if_pos e]; exact .inr rfl
        · rw [if_neg e]; exact .inl rfl
      · obtain rfl : x = 1 := hx
        have hk0 : ∀ f, Gr.new.held S 1 f = 0 := fun f => by
          show (if kd (S 0) f = 0 then (0 : Int).toNat else 0) = 0
          split <;> rfl
        have hi0 : ∀ f, Gr.new.ints S 1 f = 0 := fun f => by
          show (if kd (S 0) f = 0 then 0 else (0 : Int)) = 0
          split <;> rfl
        refine ⟨⟨Nat.le_refl 1, Nat.le_refl 1⟩, ?_, hcell _ _ _ n7 nc0, hcell _ _ _ n7 nc1, hcell _ _ _ n7 nc2, ta, fun _ => ⟨rfl, rfl, th, ti⟩, fun f hf => ?_, fun f hf => ?_, fun f hf => .inl (hk0 f)⟩
        · obtain ⟨c, t, hh⟩ := nc
          exact ⟨c, t, (hB56.block a n7).trans hh⟩
        · rw [hk0]
          exact ⟨hcell _ _ _ n8 (nh f hf).1, hfr _ _ n8 (nh f hf).2⟩
        · rw [hi0]
          exact ⟨hcell _ _ _ n9 (ni f hf).1, hfr _ _ n9 (ni f hf).2⟩
end
end Go.Proofs.Ytbkaopeajjechaa
