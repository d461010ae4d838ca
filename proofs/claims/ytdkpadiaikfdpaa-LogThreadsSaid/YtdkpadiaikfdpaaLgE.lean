/- The walk of package log: which step is not right. -/
import Derived.Test.YtdkpadiaikfdpaaLgC
namespace Go.Proofs.Ytdkpadiaikfdpaa
set_option linter.unusedVariables false
set_option linter.unusedSimpArgs false
open Go.RowKit Go.Shelf

attribute [local go_sem] Oper.semAt_some

/-- What Wrong answers. -/
def WrongTo (m : Nat) (z : Nat → Int) (st : Nat → Nat → Int) (len : Nat) (e : Ending) : Prop :=
  (∃ k, k < len ∧ okS m z st k = false ∧ (∀ i, i < k → okS m z st i = true) ∧ e = .returned (.tuple #[.int .i64 (k : Int), .bool true, .int .i64 0])) ∨
  ((∀ i, i < len → okS m z st i = true) ∧ e = .returned (.tuple #[.int .i64 0, .bool false, .int .i64 0]))

set_option maxRecDepth 100000 in
set_option maxHeartbeats 4000000 in
theorem wrong_yes (b o m cap : Nat) (z : Nat → Int) (hm1 : 1 ≤ m) (hm2 : m ≤ 16384) (A : Option Addr) (len cap2 : Nat) (st : Nat → Nat → Int) (hlen : len ≤ 9223372036854775807) (w : World) (hb : b < w.heap.size)
    (hc : ∀ i, i < m → w.cell? ⟨b, o + i, none⟩ = some (.int .u64 (z i))) (hS : StOk w A len st) :
    Calls Try.prog 11 #[.slice (some ⟨b, o, none⟩) m cap, .slice A len cap2] w fun e w' => WrongTo m z st len e ∧ Below w.heap.size w w' := by
  have HS := hide hS
  obtain ⟨W0, hW0⟩ : ∃ W, W = ((w.alloc (.cells #[.int .i64 0] 3)).alloc (.cells #[.bool false] 4)).alloc (.cells #[.int .i64 0] 26) := ⟨_, rfl⟩
  have hB0 : Below w.heap.size w W0 := by rw [hW0]; repeat (first | exact Below.refl _ _ | assumption | refine Below.alloc ?_ (by first | (simp; done) | (simp; omega) | omega) _ | refine Below.setCell ?_ (by first | (simp; done) | (simp; omega) | omega) _ | apply Below.drew | refine Below.trans ?_ (Below.mono (by assumption) (by first | (simp; done) | (simp; omega) | omega)))
  have hs0 : W0.heap.size = w.heap.size + 3 := by rw [hW0]; simp
  have r0 : W0.cell? ⟨w.heap.size, 0, none⟩ = some (.int .i64 0) ∧ W0.frozen? ⟨w.heap.size, 0, none⟩ = false := by rw [hW0]; constructor <;> go_simp
  have r1 : W0.cell? ⟨w.heap.size + 1, 0, none⟩ = some (.bool false) ∧ W0.frozen? ⟨w.heap.size + 1, 0, none⟩ = false := by rw [hW0]; constructor <;> go_simp
  have r2 : W0.cell? ⟨w.heap.size + 1 + 1, 0, none⟩ = some (.int .i64 0) ∧ W0.frozen? ⟨w.heap.size + 1 + 1, 0, none⟩ = false := by rw [hW0]; constructor <;> go_simp
  have cof := hide (lgof_yes b o m cap z hm1 hm2 W0 (by omega) (fun i hi => (hB0.cell (p := ⟨b, o + i, none⟩) hb).trans (hc i hi)))
  have HW0 := hide hW0
  clear hc hS hW0
  refine (callsIn_wide (n := 8)).1 ?_
  refine callsIn_of_wp_marks Try.func11 rfl trivial ?_ rfl
  simp only [Try.ntmps11, List.size_toArray, List.length_cons, List.length_nil, Nat.reduceAdd, Nat.reduceSub, Array.replicate_succ, Array.replicate_zero, List.push_toArray, List.append_toArray, List.nil_append, List.cons_append]
  gi_wp2
  rw [← unhide HW0]
  refine ⟨trivial, ?_⟩
  refine (callsIn_wide.2 (unhide cof)).mono ?_
  rintro e w1 ⟨g, h, rfl, hb1, hg, hh, H1⟩
  have H1 := hide H1
  have hs1 := hb1.size
  have B1 := hide (hB0.trans (hb1.mono (by omega)))
  replace r0 := And.intro ((hb1.cell (p := ⟨w.heap.size, 0, none⟩) (by show w.heap.size < _; omega)).trans r0.1) ((hb1.frozen (p := ⟨w.heap.size, 0, none⟩) (by show w.heap.size < _; omega)).trans r0.2)
  replace r1 := And.intro ((hb1.cell (p := ⟨w.heap.size + 1, 0, none⟩) (by show w.heap.size + 1 < _; omega)).trans r1.1) ((hb1.frozen (p := ⟨w.heap.size + 1, 0, none⟩) (by show w.heap.size + 1 < _; omega)).trans r1.2)
  replace r2 := And.intro ((hb1.cell (p := ⟨w.heap.size + 1 + 1, 0, none⟩) (by show w.heap.size + 1 + 1 < _; omega)).trans r2.1) ((hb1.frozen (p := ⟨w.heap.size + 1 + 1, 0, none⟩) (by show w.heap.size + 1 + 1 < _; omega)).trans r2.2)
  clear hb1 cof HW0 hB0
  gi_wp2
  refine ⟨trivial, ?_⟩
  refine (callsIn_wide.2 (right_any _ _ _ _ _)).mono ?_
  rintro e w2 ⟨rfl, hE⟩
  have hgs : g < w1.heap.size := (unhide H1).2.1
  have hhs : h < w1.heap.size := (unhide H1).2.2.1
  have hb2 : Below w1.heap.size w1 w2 := by rw [← hE]; repeat (first | exact Below.refl _ _ | assumption | refine Below.alloc ?_ (by first | (simp; done) | (simp; omega) | omega) _ | refine Below.setCell ?_ (by first | (simp; done) | (simp; omega) | omega) _ | apply Below.drew | refine Below.trans ?_ (Below.mono (by assumption) (by first | (simp; done) | (simp; omega) | omega)))
  have hs2 : w2.heap.size = w1.heap.size + 3 := by rw [← hE]; simp
  have q1 : w2.cell? ⟨w1.heap.size + 1 + 1, 0, none⟩ = some (.slice A len cap2) := by subst hE; go_simp
  have q2 : w2.cell? ⟨w1.heap.size + 1, 0, none⟩ = some (.pointer (some ⟨g, 0, none⟩)) := by subst hE; go_simp
  clear hE
  gi_wp2
  have hsp : StOk w2 A len st := (unhide HS).keep ((unhide B1).trans (hb2.mono (by omega)))
  have hIA : IsAr w2 g h m z := (unhide H1).keep hb2
  have hAA : 0 < len → ∃ bs os, A = some ⟨bs, os, none⟩ ∧ bs < w2.heap.size ∧ bs ≠ h := fun hl => by
    obtain ⟨bs, os, e, h4, _⟩ := unhide HS hl
    exact ⟨bs, os, e, by omega, by omega⟩
  have R0 := And.intro ((hb2.cell (p := ⟨w.heap.size, 0, none⟩) (by show w.heap.size < _; omega)).trans r0.1) ((hb2.frozen (p := ⟨w.heap.size, 0, none⟩) (by show w.heap.size < _; omega)).trans r0.2)
  have R1 := And.intro ((hb2.cell (p := ⟨w.heap.size + 1, 0, none⟩) (by show w.heap.size + 1 < _; omega)).trans r1.1) ((hb2.frozen (p := ⟨w.heap.size + 1, 0, none⟩) (by show w.heap.size + 1 < _; omega)).trans r1.2)
  have R2 := And.intro ((hb2.cell (p := ⟨w.heap.size + 1 + 1, 0, none⟩) (by show w.heap.size + 1 + 1 < _; omega)).trans r2.1) ((hb2.frozen (p := ⟨w.heap.size + 1 + 1, 0, none⟩) (by show w.heap.size + 1 + 1 < _; omega)).trans r2.2)
  have B2 := (unhide B1).trans (hb2.mono (by omega))
  refine wpIn_rangeFunc_X rfl (by omega) (gf := 42) (lb := #[.pointer (some ⟨w1.heap.size + 1 + 1, 0, none⟩), .pointer (some ⟨w1.heap.size + 1, 0, none⟩)]) rfl trivial (enters_of Try.func42 (by kernel_rfl) rfl)
    (right_stops 7 (by omega) g h m z A len cap2 st (w1.heap.size + 1 + 1) (w1.heap.size + 1) w2.heap.size w2 hlen hIA hsp (by omega) (by omega) (by omega) (by omega) (Nat.le_refl _) hAA (by omega) (by omega) q1 q2) (by omega)
    belowK_t (belowK_b (Nat.le_refl _)) (Below.refl _ _) (fun _ => rfl)
    (fun pre W => ((∀ i ∈ pre, okS m z st i = true) ∧ (W.cell? ⟨w.heap.size, 0, none⟩ = some (.int .i64 0) ∧ W.frozen? ⟨w.heap.size, 0, none⟩ = false) ∧ (W.cell? ⟨w.heap.size + 1, 0, none⟩ = some (.bool false) ∧ W.frozen? ⟨w.heap.size + 1, 0, none⟩ = false) ∧
      (W.cell? ⟨w.heap.size + 1 + 1, 0, none⟩ = some (.int .i64 0) ∧ W.frozen? ⟨w.heap.size + 1 + 1, 0, none⟩ = false)) ∧ Below w.heap.size w W)
    (fun c pre W => (c = .ret ∧ ∃ q x, pre = q ++ [x] ∧ okS m z st x = false ∧ (∀ i ∈ q, okS m z st i = true) ∧ W.cell? ⟨w.heap.size, 0, none⟩ = some (.int .i64 (x : Int)) ∧ W.cell? ⟨w.heap.size + 1, 0, none⟩ = some (.bool true) ∧ W.cell? ⟨w.heap.size + 1 + 1, 0, none⟩ = some (.int .i64 0)) ∧ Below w.heap.size w W)
    (StaysX.and (fun s C D row hs hg hr => ⟨hs.1, ⟨cell_stays hs.2.1.1 hg hr (by omega), (frozen_stays hs.2.1.1 hg hr (by omega)).trans hs.2.1.2⟩, ⟨cell_stays hs.2.2.1.1 hg hr (by omega), (frozen_stays hs.2.2.1.1 hg hr (by omega)).trans hs.2.2.1.2⟩,
      ⟨cell_stays hs.2.2.2.1 hg hr (by omega), (frozen_stays hs.2.2.2.1 hg hr (by omega)).trans hs.2.2.2.2⟩⟩) (staysX_below (Nat.le_refl _) (by omega) (by omega)))
    (fun c => StaysX.and (fun s C D row hs hg hr => by
      obtain ⟨e1, q, x, e2, e3, e4, e5, e6, e7⟩ := hs
      exact ⟨e1, q, x, e2, e3, e4, cell_stays e5 hg hr (by omega), cell_stays e6 hg hr (by omega), cell_stays e7 hg hr (by omega)⟩) (staysX_below (Nat.le_refl _) (by omega) (by omega)))
    ⟨⟨(fun i hi => by cases hi), R0, R1, R2⟩, B2⟩ ?a1 ?assign ?body ?done ?stop
  case assign =>
    intro l x W K hK
    gi_wp2
    exact hK
  case body =>
    rintro l pre x W ⟨⟨i1, ⟨i2, i3⟩, ⟨i4, i5⟩, i6, i7⟩, hB⟩ _
    have HI := hide i1
    have hsW := hB.size
    clear i1
    cases hx : okS m z st x with
    | true =>
      have HX := hide hx
      clear hx
      gi_wp2
      exact ⟨KeepsFrom.refl _ _, Below.refl _ _, ⟨(fun i hi => by
        rcases List.mem_append.1 hi with hi | hi
        · exact unhide HI i hi
        · rw [List.mem_singleton.1 hi]; exact unhide HX), ⟨i2, i3⟩, ⟨i4, i5⟩, i6, i7⟩, hB⟩
    | false =>
      have HX := hide hx
      clear hx
      gi_wp2
      refine ⟨((KeepsOthers.setCell _ _ _).trans ((KeepsOthers.setCell _ _ _).trans (KeepsOthers.setCell _ _ _))).from _, ⟨rfl, pre, x, rfl, unhide HX, unhide HI, ?_, ?_, ?_⟩, ((hB.setCell (p := ⟨w.heap.size, 0, none⟩) (Nat.le_refl _) _).setCell (p := ⟨w.heap.size + 1, 0, none⟩) (by show w.heap.size ≤ w.heap.size + 1; omega) _).setCell (p := ⟨w.heap.size + 1 + 1, 0, none⟩) (by show w.heap.size ≤ w.heap.size + 1 + 1; omega) _⟩
      all_goals go_simp
  case done =>
    rintro D ys W hD rfl ⟨⟨i1, ⟨i2, i3⟩, ⟨i4, i5⟩, i6, i7⟩, hB⟩ hK
    have HI := hide i1
    have hsW := hB.size
    clear i1
    gi_wp2
    obtain ⟨W3, hW3⟩ : ∃ X, X = (((W.setCell ⟨w.heap.size, 0, none⟩ (Value.int IntKind.i64 0)).setCell ⟨w.heap.size + 1, 0, none⟩ (Value.bool false)).setCell ⟨w.heap.size + 1 + 1, 0, none⟩ (Value.int IntKind.i64 0)) := ⟨_, rfl⟩
    rw [← hW3]
    have hK' : W3.heap[D]? = some (.deferred (some [])) := by rw [hW3]; exact ((KeepsOthers.setCell _ _ _).trans ((KeepsOthers.setCell _ _ _).trans (KeepsOthers.setCell _ _ _))).same D _ hK rfl
    have g0 : W3.cell? ⟨w.heap.size, 0, none⟩ = some (.int .i64 0) := by subst hW3; go_simp
    have g1 : W3.cell? ⟨w.heap.size + 1, 0, none⟩ = some (.bool false) := by subst hW3; go_simp
    have g2 : W3.cell? ⟨w.heap.size + 1 + 1, 0, none⟩ = some (.int .i64 0) := by subst hW3; go_simp
    have hB3 : Below w.heap.size w W3 := by rw [hW3]; exact ((hB.setCell (p := ⟨w.heap.size, 0, none⟩) (Nat.le_refl _) _).setCell (p := ⟨w.heap.size + 1, 0, none⟩) (by show w.heap.size ≤ w.heap.size + 1; omega) _).setCell (p := ⟨w.heap.size + 1 + 1, 0, none⟩) (by show w.heap.size ≤ w.heap.size + 1 + 1; omega) _
    clear hW3 hK i2 i3 i4 i5 i6 i7 hB
    refine ⟨by simp, .inl ⟨_, _, rfl, run_takeDeferred hK', ?_⟩⟩
    have f0 := cell_kept g0 (grownBy_putObj' _ D (.deferred none)) (fun r e => by cases e; exact ⟨_, hK', rfl⟩)
    have f1 := cell_kept g1 (grownBy_putObj' _ D (.deferred none)) (fun r e => by cases e; exact ⟨_, hK', rfl⟩)
    have f2 := cell_kept g2 (grownBy_putObj' _ D (.deferred none)) (fun r e => by cases e; exact ⟨_, hK', rfl⟩)
    refine ⟨.tuple #[.int .i64 0, .bool false, .int .i64 0], ?_, .inr ⟨fun i hi => unhide HI i (List.mem_range.2 hi), rfl⟩, hB3.trans (belowK_b (w := w) (Nat.le_refl _) _ D _ _ (by omega) hK' rfl rfl)⟩
    simp [results, Try.f11, go_sem, f0, f1, f2]
  case stop =>
    rintro D c pre W hD ⟨k, hk, rfl⟩ ⟨⟨rfl, q, x, e1, e2, e3, i2, i4, i6⟩, hB⟩ hK
    have hsW := hB.size
    have hex : ∃ k', k' < len ∧ x = k' ∧ (∀ i, i < k' → okS m z st i = true) := by
      cases k with
      | zero => simp at e1
      | succ k' =>
        rw [List.range_succ] at e1
        have h1 := List.append_inj_left' e1 rfl
        have h2 : k' = x := by simpa using List.append_inj_right' e1 rfl
        exact ⟨k', by omega, h2.symm, fun i hi => e3 i (by rw [← h1]; exact List.mem_range.2 hi)⟩
    have HE := hide hex
    have E2 := hide e2
    clear e1 e2 e3 hex
    gi_wp2
    refine ⟨by simp, .inl ⟨_, _, rfl, run_takeDeferred hK, ?_⟩⟩
    have f0 := cell_kept i2 (grownBy_putObj' _ D (.deferred none)) (fun r e => by cases e; exact ⟨_, hK, rfl⟩)
    have f1 := cell_kept i4 (grownBy_putObj' _ D (.deferred none)) (fun r e => by cases e; exact ⟨_, hK, rfl⟩)
    have f2 := cell_kept i6 (grownBy_putObj' _ D (.deferred none)) (fun r e => by cases e; exact ⟨_, hK, rfl⟩)
    obtain ⟨k', h1, rfl, h3⟩ := unhide HE
    refine ⟨.tuple #[.int .i64 (x : Int), .bool true, .int .i64 0], ?_, .inl ⟨x, h1, unhide E2, h3, rfl⟩, hB.trans (belowK_b (w := w) (Nat.le_refl _) _ D _ _ (by omega) hK rfl rfl)⟩
    simp [results, Try.f11, go_sem, f0, f1, f2]

set_option maxHeartbeats 1000000 in
theorem wrong_no (B : Option Addr) (m cap : Nat) (hm : m ≤ 9223372036854775807) (hn : ¬ (1 ≤ m ∧ m ≤ 16384)) (A : Option Addr) (len cap2 : Nat) (w : World) :
    Calls Try.prog 11 #[.slice B m cap, .slice A len cap2] w fun e w' => e = .returned (.tuple #[.int .i64 0, .bool false, .int .i64 2]) ∧ Below w.heap.size w w' := by
  obtain ⟨W0, hW0⟩ : ∃ W, W = ((w.alloc (.cells #[.int .i64 0] 3)).alloc (.cells #[.bool false] 4)).alloc (.cells #[.int .i64 0] 26) := ⟨_, rfl⟩
  have hB0 : Below w.heap.size w W0 := by rw [hW0]; repeat (first | exact Below.refl _ _ | assumption | refine Below.alloc ?_ (by first | (simp; done) | (simp; omega) | omega) _ | refine Below.setCell ?_ (by first | (simp; done) | (simp; omega) | omega) _ | apply Below.drew | refine Below.trans ?_ (Below.mono (by assumption) (by first | (simp; done) | (simp; omega) | omega)))
  have hs0 : W0.heap.size = w.heap.size + 3 := by rw [hW0]; simp
  have r0 : W0.cell? ⟨w.heap.size, 0, none⟩ = some (.int .i64 0) ∧ W0.frozen? ⟨w.heap.size, 0, none⟩ = false := by rw [hW0]; constructor <;> go_simp
  have r1 : W0.cell? ⟨w.heap.size + 1, 0, none⟩ = some (.bool false) ∧ W0.frozen? ⟨w.heap.size + 1, 0, none⟩ = false := by rw [hW0]; constructor <;> go_simp
  have r2 : W0.cell? ⟨w.heap.size + 1 + 1, 0, none⟩ = some (.int .i64 0) ∧ W0.frozen? ⟨w.heap.size + 1 + 1, 0, none⟩ = false := by rw [hW0]; constructor <;> go_simp
  have cof := hide (lgof_no B m cap hm hn W0)
  have HW0 := hide hW0
  clear hW0 hn
  go_enter Try.func11, Try.ntmps11
  go_wp2_with fail
  rw [← unhide HW0]
  refine (unhide cof).mono ?_
  rintro e w1 ⟨rfl, hb1⟩
  have hs1 := hb1.size
  have B1 := hB0.trans (hb1.mono (by omega))
  replace r0 := And.intro ((hb1.cell (p := ⟨w.heap.size, 0, none⟩) (by show w.heap.size < _; omega)).trans r0.1) ((hb1.frozen (p := ⟨w.heap.size, 0, none⟩) (by show w.heap.size < _; omega)).trans r0.2)
  replace r1 := And.intro ((hb1.cell (p := ⟨w.heap.size + 1, 0, none⟩) (by show w.heap.size + 1 < _; omega)).trans r1.1) ((hb1.frozen (p := ⟨w.heap.size + 1, 0, none⟩) (by show w.heap.size + 1 < _; omega)).trans r1.2)
  replace r2 := And.intro ((hb1.cell (p := ⟨w.heap.size + 1 + 1, 0, none⟩) (by show w.heap.size + 1 + 1 < _; omega)).trans r2.1) ((hb1.frozen (p := ⟨w.heap.size + 1 + 1, 0, none⟩) (by show w.heap.size + 1 + 1 < _; omega)).trans r2.2)
  obtain ⟨r0, r0'⟩ := r0
  obtain ⟨r1, r1'⟩ := r1
  obtain ⟨r2, r2'⟩ := r2
  have z0 : w.heap.size < w1.heap.size := by omega
  have z1 : w.heap.size + 1 < w1.heap.size := by omega
  have z2 : w.heap.size + 1 + 1 < w1.heap.size := by omega
  have hs1' := B1.size
  clear hb1 cof HW0 hB0 hs0 hs1
  go_wp2
  refine bodyPost_ret (v := .tuple #[.int .i64 0, .bool false, .int .i64 2]) (by simp only [results, Try.results11]; go_simp) rfl ?_
  refine ⟨rfl, ?_⟩
  repeat (first | exact Below.refl _ _ | assumption | refine Below.alloc ?_ (by first | (simp; done) | (simp; omega) | omega) _ | refine Below.setCell ?_ (by first | (simp; done) | (simp; omega) | omega) _ | apply Below.drew | refine Below.trans ?_ (Below.mono (by assumption) (by first | (simp; done) | (simp; omega) | omega)))
end Go.Proofs.Ytdkpadiaikfdpaa
