/- The walks of package arena's laws: has an arena just these words? -/
import Derived.Test.YtlhpphlfgjopbaaArG
namespace Go.Proofs.Ytlhpphlfgjopbaa
set_option linter.unusedVariables false
set_option linter.unusedSimpArgs false
open Go.RowKit Go.Shelf

attribute [local go_sem] Oper.semAt_some

theorem run_equalIn_func_nil {P : Program} (w : World) (d : Nat) {t : TypeId} (f : Fn) (c a : Array Value) (h : (match P.underlying t with | some (.func ..) => true | _ => false) = true) :
    (Op.equalIn (d + 1) t (.func f c a) .nilFunc).run P w = .ok false w := by
  cases hu : P.underlying t with
  | none => rw [hu] at h; cases h
  | some i =>
    rw [hu] at h
    cases i <;> first | (cases h; done) | skip
    simp [Op.equalIn, run_underlying hu]

theorem run_eql_func_nil {P : Program} (w : World) {t : TypeId} (f : Fn) (c a : Array Value) (h : (match P.underlying t with | some (.func ..) => true | _ => false) = true) :
    (binOp .eql t (.func f c a) .nilFunc).run P w = .ok (.bool false) w := by
  have he : (Op.equal t (.func f c a) .nilFunc).run P w = .ok false w := run_equalIn_func_nil w 9999 f c a h
  simp only [binOp]
  simp [he]

@[local go_sem] theorem eql_all (w : World) (f : Fn) (c a : Array Value) : (binOp .eql 46 (.func f c a) .nilFunc).run Try.prog w = .ok (.bool false) w := run_eql_func_nil w f c a (by kernel_rfl)

set_option maxRecDepth 100000 in
set_option maxHeartbeats 4000000 in
theorem has_true (g h m : Nat) (xs : Nat → Int) (B off cap : Nat) (w : World) (H : IsAr w g h m xs) (hB : B < w.heap.size)
    (hl : ∀ i, i < m → w.cell? ⟨B, off + i, none⟩ = some (.int .u64 (xs i))) :
    Calls Try.prog 16 #[.pointer (some ⟨g, 0, none⟩), .slice (some ⟨B, off, none⟩) m cap] w fun e w' => e = .returned (.bool true) ∧ Below w.heap.size w w' := by
  have HI := hide H
  clear H
  refine (callsIn_wide (n := 5)).1 ?_
  refine callsIn_of_wp_marks Try.func16 rfl trivial ?_ rfl
  simp only [Try.ntmps16, List.size_toArray, List.length_cons, List.length_nil, Nat.reduceAdd, Nat.reduceSub, Array.replicate_succ, Array.replicate_zero, List.push_toArray, List.append_toArray, List.nil_append, List.cons_append]
  gi_wp2
  refine ⟨trivial, ?_⟩
  refine (callsIn_wide.2 (all_any _ ⟨_, rfl⟩ _)).mono ?_
  rintro e w1 ⟨rfl, hE1⟩
  have hB1 : Below w.heap.size w w1 := by
    subst hE1
    repeat (first | exact Below.refl _ _ | assumption | refine Below.alloc ?_ (by first | (simp; done) | (simp; omega) | omega) _ | refine Below.setCell ?_ (by first | (simp; done) | (simp; omega) | omega) _ | apply Below.drew | refine Below.trans ?_ (Below.mono (by assumption) (by first | (simp; done) | (simp; omega) | omega)))
  have hs1 : w1.heap.size = w.heap.size + 3 := by subst hE1; simp
  have c3 : w1.cell? ⟨w.heap.size, 0, none⟩ = some (.slice (some ⟨B, off, none⟩) m cap) := by subst hE1; go_simp
  have c4 : w1.cell? ⟨w.heap.size + 1, 0, none⟩ = some (.bool false) := by subst hE1; go_simp
  have c5 : w1.cell? ⟨w.heap.size + 1 + 1, 0, none⟩ = some (.pointer (some ⟨g, 0, none⟩)) := by subst hE1; go_simp
  have d4 : w1.frozen? ⟨w.heap.size + 1, 0, none⟩ = false := by subst hE1; go_simp
  have l3 : w.heap.size < w1.heap.size := by omega
  have l4 : w.heap.size + 1 < w1.heap.size := by omega
  have l5 : w.heap.size + 1 + 1 < w1.heap.size := by omega
  have HI1 := hide ((unhide HI).keep hB1)
  clear hE1
  gi_wp2
  refine wpIn_wide.2 ?_
  go_region_held3 (fun W => Below w1.heap.size w1 W ∧ W.cell? ⟨w.heap.size, 0, none⟩ = some (.slice (some ⟨B, off, none⟩) m cap)) (((refine and_dep ?_ (fun hkq => (hkq.cell (p := ⟨w.heap.size, 0, none⟩) l3).trans c3)); go_split_ands; repeat (first | exact Below.refl _ _ | assumption | refine Below.alloc ?_ (by first | (simp; done) | (simp; omega) | omega) _ | refine Below.setCell ?_ (by first | (simp; done) | (simp; omega) | omega) _ | apply Below.drew | refine Below.trans ?_ (Below.mono (by assumption) (by first | (simp; done) | (simp; omega) | omega)))))
    ((go_at_call 26; refine (len_any g h m xs _ ((unhide HI1).keep (by go_split_ands; repeat (first | exact Below.refl _ _ | assumption | refine Below.alloc ?_ (by first | (simp; done) | (simp; omega) | omega) _ | refine Below.setCell ?_ (by first | (simp; done) | (simp; omega) | omega) _ | apply Below.drew | refine Below.trans ?_ (Below.mono (by assumption) (by first | (simp; done) | (simp; omega) | omega)))))).mono ?_; rintro e w3 ⟨rfl, hw3⟩; obtain ⟨hcw3, hfw3⟩ := bcell hw3; (try (simp only [World.size_drew, World.cell?_drew, World.frozen?_drew] at hcw3 hfw3)); have hzw3 := hw3.size; (try (simp only [World.size_alloc, World.size_setCell, World.size_drew] at hzw3)); (try (have hzw3_w_0 : w.heap.size < w3.heap.size := by omega)); (try (have hzw3_w_1 : w.heap.size + 1 < w3.heap.size := by omega)); (try (have hzw3_w_2 : w.heap.size + 1 + 1 < w3.heap.size := by omega)); (try (have hzw3_w_3 : w.heap.size + 1 + 1 + 1 < w3.heap.size := by omega)); (try (have hyw3_w : w.heap.size ≤ w3.heap.size := by omega)); (try (have hyw3_wa : w.heap.size + 1 ≤ w3.heap.size := by omega)); (try (have hzw3_w1_0 : w1.heap.size < w3.heap.size := by omega)); (try (have hzw3_w1_1 : w1.heap.size + 1 < w3.heap.size := by omega)); (try (have hzw3_w1_2 : w1.heap.size + 1 + 1 < w3.heap.size := by omega)); (try (have hzw3_w1_3 : w1.heap.size + 1 + 1 + 1 < w3.heap.size := by omega)); (try (have hyw3_w1 : w1.heap.size ≤ w3.heap.size := by omega)); (try (have hyw3_w1a : w1.heap.size + 1 ≤ w3.heap.size := by omega))))
  have hB3 : Below w1.heap.size w1 w3 := by
    obtain ⟨q, _⟩ := (by assumption : Below w1.heap.size w1 w3 ∧ _)
    exact q
  have hBw3 : Below w.heap.size w w3 := hB1.trans (hB3.mono (by omega))
  have e3 := (hB3.cell (p := ⟨w.heap.size, 0, none⟩) l3).trans c3
  have e4 := (hB3.cell (p := ⟨w.heap.size + 1, 0, none⟩) l4).trans c4
  have e5 := (hB3.cell (p := ⟨w.heap.size + 1 + 1, 0, none⟩) l5).trans c5
  have f4 := (hB3.frozen (p := ⟨w.heap.size + 1, 0, none⟩) l4).trans d4
  have HI3 := hide ((unhide HI1).keep hB3)
  clear hcw3 hfw3
  gi_wp2
  have hm1 : m ≤ 16384 := (unhide HI).2.2.2.2.1.2
  have bN := Boxed.new w3 3 (.int .i64 0)
  have hB4 : Below w3.heap.size w3 (w3.alloc (.cells #[.int .i64 0] 3)) := (Below.refl _ w3).alloc (Nat.le_refl _) _
  have g3 := (hB4.cell (p := ⟨w.heap.size, 0, none⟩) (by show _ < _; omega)).trans e3
  have g4 := (hB4.cell (p := ⟨w.heap.size + 1, 0, none⟩) (by show _ < _; omega)).trans e4
  have g5 := (hB4.cell (p := ⟨w.heap.size + 1 + 1, 0, none⟩) (by show _ < _; omega)).trans e5
  have k4 := (hB4.frozen (p := ⟨w.heap.size + 1, 0, none⟩) (by show _ < _; omega)).trans f4
  have HI4 := hide ((unhide HI3).keep hB4)
  have hgs : g < w3.heap.size := (unhide HI3).2.1
  have hhs : h < w3.heap.size := (unhide HI3).2.2.1
  have hBw4 : Below w.heap.size w (w3.alloc (.cells #[.int .i64 0] 3)) := hBw3.trans (hB4.mono (by omega))
  refine wpIn_rangeFunc_ownG rfl (by omega) (gf := 36) (lb := #[.pointer (some ⟨w.heap.size + 1 + 1, 0, none⟩)]) rfl trivial (enters_of Try.func36 (by kernel_rfl) rfl)
    (all_stops 4 (by omega) g h m (w.heap.size + 1 + 1) xs w3.heap.size _ (unhide HI4) hgs hhs (by omega) (by simp) g5) belowK_t (belowK_b (by simp)) (Below.refl _ _) (fun _ => rfl)
    (fun pre W => (∃ k : Nat, pre = List.range k ∧ (W.cell? ⟨w3.heap.size, 0, none⟩ = some (.int .i64 (k : Int)) ∧ W.frozen? ⟨w3.heap.size, 0, none⟩ = false) ∧
      W.cell? ⟨w.heap.size, 0, none⟩ = some (.slice (some ⟨B, off, none⟩) m cap) ∧ W.cell? ⟨w.heap.size + 1, 0, none⟩ = some (.bool false) ∧ W.frozen? ⟨w.heap.size + 1, 0, none⟩ = false) ∧ Below w.heap.size w W)
    (fun c pre W => c = .ret ∧ ∃ (k x : Nat), pre = List.range k ++ [x] ∧ x ≠ k)
    (OwnFrom.and (Own.from (fun s A B row hs hgr hr => by
      obtain ⟨k, a1, ⟨a2, a3⟩, a4, a5, a6⟩ := hs
      exact ⟨k, a1, ⟨cell_kept a2 hgr hr, (frozen_kept a2 hgr hr).trans a3⟩, cell_kept a4 hgr hr, cell_kept a5 hgr hr, (frozen_kept a5 hgr hr).trans a6⟩) _) (ownFrom_below (Nat.le_refl _) (by simp; omega)))
    (fun _ _ _ _ _ hs _ _ => hs)
    ⟨⟨0, rfl, ⟨bN.cell, bN.frozen⟩, g3, g4, k4⟩, hBw4⟩
    (fun x => { tmps := #[Value.pointer (some ⟨g, 0, none⟩), Value.slice (some ⟨B, off, none⟩) m cap, undef, Value.pointer (some ⟨w.heap.size, 0, none⟩), Value.pointer (some ⟨w.heap.size + 1, 0, none⟩), Value.func (.func 36) #[] #[.pointer (some ⟨w.heap.size + 1 + 1, 0, none⟩)], Value.pointer (some ⟨w3.heap.size, 0, none⟩), Value.int .i64 (x : Int), Value.int .u64 (xs x), Value.pointer (some ⟨g, 0, none⟩), Value.func (.func 36) #[] #[.pointer (some ⟨w.heap.size + 1 + 1, 0, none⟩)], Value.func (.func 36) #[] #[.pointer (some ⟨w.heap.size + 1 + 1, 0, none⟩)], Value.bool false, Value.bool false, Value.pointer (some ⟨g, 0, none⟩), Value.int .i64 (m : Int), Value.slice (some ⟨B, off, none⟩) m cap, Value.int .i64 (m : Int), Value.bool false, Value.bool false, Value.func (.func 36) #[] #[.pointer (some ⟨w.heap.size + 1 + 1, 0, none⟩)], Value.int .i64 (x : Int), Value.int .u64 (xs x), undef, undef, undef, undef, undef, undef, undef, undef, undef, undef, undef, undef, undef, undef, undef, undef, undef, undef, undef, undef, undef, undef, undef], defers := [] }) ?assign ?body ?done ?stop
  case assign =>
    intro l x W K hK
    gi_wp2
    exact hK
  case body =>
    rintro l pre x W ⟨⟨k, rfl, ⟨n1, n2⟩, n3, n4, n5⟩, hB⟩ hlen
    have hk : k < m := by simpa using hlen
    have hki : ((m : Int) ≤ (k : Int)) = False := eq_false (by omega)
    have b0 : (0 : Int) ≤ (k : Int) := by omega
    have b1 : (k : Int) < (m : Int) := by omega
    have hlq : W.cell? ⟨B, off + k, none⟩ = some (.int .u64 (xs k)) := (hB.cell (p := ⟨B, off + k, none⟩) ‹_›).trans (hl k hk)
    clear hl
    by_cases hx : x = k
    · subst hx
      gi_wp2
      refine ⟨(KeepsOthers.setCell _ _ _).from _, (Below.refl w3.heap.size W).setCell (p := ⟨w3.heap.size, 0, none⟩) (Nat.le_refl _) _, ⟨x + 1, List.range_succ.symm, ⟨?_, by rw [World.frozen?_setCell]; exact n2⟩, ?_, ?_, by rw [World.frozen?_setCell]; exact n5⟩, hB.setCell (p := ⟨w3.heap.size, 0, none⟩) (by show _ ≤ _; omega) _⟩
      · rw [World.cell?_setCell_same' _ _ _ (by rw [n1]; rfl)]
        go_num
      · rw [World.cell?_setCell_other _ _ _ _ (fun e => by injection e with e _ _; omega)]
        exact n3
      · rw [World.cell?_setCell_other _ _ _ _ (fun e => by injection e with e _ _; omega)]
        exact n4
    · have hx1 : ((x : Int) == (k : Int)) = false := by simp; omega
      have hx2 : ¬ (x : Int) = (k : Int) := by omega
      gi_wp2
      exact ⟨(KeepsOthers.setCell _ _ _).from _, rfl, k, x, rfl, hx⟩
  case done =>
    rintro D ys W hD rfl ⟨⟨k, hk, ⟨n1, n2⟩, n3, n4, n5⟩, hB⟩ hK
    obtain rfl : m = k := by simpa using congrArg List.length hk
    gi_wp2
    have hK' := (KeepsOthers.setCell W ⟨w.heap.size + 1, 0, none⟩ (.bool true)).same D _ hK rfl
    refine ⟨by simp, .inl ⟨_, _, rfl, run_takeDeferred hK', ?_⟩⟩
    have hc5 := cell_kept (World.cell?_setCell_same' W ⟨w.heap.size + 1, 0, none⟩ (.bool true) (by rw [n4]; rfl)) (grownBy_putObj' _ D (.deferred none)) (fun r e => by cases e; exact ⟨_, hK', rfl⟩)
    refine ⟨.bool true, ?_, rfl, (hB.setCell (p := ⟨w.heap.size + 1, 0, none⟩) (by show w.heap.size ≤ w.heap.size + 1; omega) _).trans (belowK_b (w := w) (Nat.le_refl _) _ D _ _ (by simp at hD; omega) hK' rfl rfl)⟩
    simp [results, Try.f16, go_sem, hc5]
  case stop =>
    rintro D c pre W _ ⟨k, hk, rfl⟩ ⟨rfl, k', x, e1, e2⟩ _
    exfalso
    obtain rfl : k = k' + 1 := by simpa using congrArg List.length e1
    rw [List.range_succ] at e1
    exact e2 (by simpa using e1.symm)
end Go.Proofs.Ytlhpphlfgjopbaa
