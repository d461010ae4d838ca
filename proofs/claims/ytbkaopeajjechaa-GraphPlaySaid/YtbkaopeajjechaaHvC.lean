/- The reference of layer 9: Do (an object more). The reference of layer 9: Do, of any kind. -/
import Derived.Test.YtbkaopeajjechaaGuF
import Derived.Test.YtbkaopeajjechaaHvB
import Derived.Test.YtbkaopeajjechaaRv
import Derived.Test.YtbkaopeajjechaaGuG
namespace Go.Proofs.Ytbkaopeajjechaa
set_option linter.unusedVariables false
set_option linter.unusedSimpArgs false
open Go.RowKit Go.Maps
section
variable {T : Nat} {sp : Int} {A : Option Addr} {len cap : Nat} {S : Nat → ByteArray} {w : World} {ρ : RLay} {G : Gr}

theorem Chg.set1' {Z : Nat → Prop} {w W : World} (h : Chg Z w W) {b i : Nat} (hz : Z b) (v : Value) : Chg Z w (W.setCell ⟨b, i, none⟩ v) := h.set (.inr hz) v
theorem one_cell {W : World} {b : Nat} {u : Value} {t : TypeId} (h : W.heap[b]? = some (Obj.cells #[u] t (0, 0))) : ∀ j v, [u][j]? = some v → W.cell? ((⟨b, 0, none⟩ : Addr).add j) = some v := by
  intro j v hv
  match j, hv with
  | 0, hv => simp at hv; subst hv; simpa [Addr.add] using Lib.cell_of_heap h 0

theorem Gr.more_n (G : Gr) (s : Nat) : (G.more s).n = G.n + 1 := rfl
/-- An object more: the lists of shapes and of fields are laid anew. -/
theorem IsR.more_of {W : World} {s h k h' k' hm : Nat} (H : IsR T S W ρ G) (hs : ∀ x, x < G.n + 1 → W.cell? ⟨h, x, none⟩ = some (.int .i64 ((G.more s).sh (x + 1) : Nat)))
    (hf : ∀ x, x < G.n + 1 → W.cell? ⟨h', x, none⟩ = some (.slice (some ⟨if x = G.n then hm else ρ.fh x, 0, none⟩) (S ((G.more s).sh (x + 1))).size (if x = G.n then (S s).size else ρ.fhc x)))
    (h0 : ∀ f, f < (S s).size → W.cell? ⟨hm, f, none⟩ = some (.int .i64 0)) :
    IsR T S W ⟨ρ.rb, ρ.rc, ρ.rh, ρ.rhc, h, k, h', k', fun x => if x = G.n then hm else ρ.fh x, fun x => if x = G.n then (S s).size else ρ.fhc x⟩ (G.more s) := by
  refine ⟨H.rows, H.root, hs, hf, fun x f hx hfl => ?_⟩
  have hx : x < G.n + 1 := hx
  show W.cell? ⟨if x = G.n then hm else ρ.fh x, f, none⟩ = some (.int .i64 (if x + 1 = G.n + 1 then 0 else G.fl (x + 1) f))
  have hfl : f < (S (if x + 1 = G.n + 1 then s else G.sh (x + 1))).size := hfl
  by_cases e : x = G.n
  · subst e
    rw [if_pos rfl] at hfl
    rw [if_pos rfl, if_pos rfl]
    exact h0 f hfl
  · rw [if_neg (by omega)] at hfl
    rw [if_neg e, if_neg (by omega)]
    exact H.fld x f (by omega) hfl
theorem more_blk {s h k h' k' hm m n : Nat} (h1 : n + 4 ≤ h) (h2 : n + 4 ≤ h') (h3 : n + 4 ≤ hm) : ∀ b, RBlk T S ⟨ρ.rb, ρ.rc, ρ.rh, ρ.rhc, h, k, h', k', fun x => if x = G.n then hm else ρ.fh x, fun x => if x = G.n then m else ρ.fhc x⟩ (G.more s) b → RBlk T S ρ G b ∨ n + 4 ≤ b := by
  rintro b (e | e | e | ⟨t, ht, e⟩ | ⟨x, hx, h0, e⟩)
  · exact .inl (.inl e)
  · exact .inr (by have e : b = h := e; omega)
  · exact .inr (by have e : b = h' := e; omega)
  · exact .inl (.inr (.inr (.inr (.inl ⟨t, ht, e⟩))))
  · have hx : x < G.n + 1 := hx
    have e : b = if x = G.n then hm else ρ.fh x := e
    have h0 : 0 < (S (if x + 1 = G.n + 1 then s else G.sh (x + 1))).size := h0
    split at e
    · exact .inr (by omega)
    · rw [if_neg (by omega)] at h0
      exact .inl (.inr (.inr (.inr (.inr ⟨x, by omega, h0, e⟩))))

set_option maxRecDepth 100000 in
set_option maxHeartbeats 4000000 in
theorem rDo_1 (H : IsR T S w ρ G) (HS : ShOk w A len S) (hlen : len ≤ 9223372036854775807) (hSz : ∀ i, i < len → (S i).size ≤ 9223372036854775807) (hT0 : 1 ≤ T) (hT : T ≤ 8) (hn0 : 1 ≤ G.n) (hn : G.n ≤ 100000) (t : Nat) (ht : t < T) (z : Nat → Int) (h0 : opE len S z = 0) (hz : z 0 = 1) (a : Nat) (ha : z 1 = (a : Int)) (la : a < 6) (s : Nat) (hs : z 5 = (s : Int)) (ls : s < len) (hm : (S s).size ≤ 1000000) :
    Calls Try.prog 40 #[rV T sp A len cap ρ G.n, .int .i64 (t : Int), opV z] w (RDone T sp A len cap S w ρ G ((G.more s).slot t a (G.n + 1)) (.agg #[.int .i64 0, .bool false, .int .i64 0])) := by
  have HI := hide H
  have CO := hide (fun W (hW : Below w.heap.size w W) => refChk_any A len cap S hlen hSz z W (HS.keep hW))
  rw [h0] at CO
  simp only [opV, hz, ha, hs] at CO
  unfold rV
  simp only [opV, hz, ha, hs]
  clear H h0 hz ha hs
  go_enter Try.func40, Try.ntmps40
  go_upto_region 1 with fail
  refine wp_gen ?_
  intro w1 hw1
  obtain ⟨hB1, hz1, a0, a1, a2, a3⟩ := alloc4 hw1
  clear hw1
  obtain ⟨-, -, c2, -, -, -⟩ := cells6 a0
  obtain ⟨o0, o1, o2, o3, o4, o5, o6, o7⟩ := cells8 a1
  go_wp2_with fail
  refine (unhide CO _ hB1).mono ?_
  rintro e w2 ⟨rfl, hb2⟩
  clear c2 o0 o1 o2 o3 o4 o5 o6 o7 CO
  have hz2 := hb2.size
  have d0 : w2.heap[w.heap.size]? = _ := (hb2.block _ (by omega)).trans a0
  have d1 : w2.heap[w.heap.size + 1]? = _ := (hb2.block _ (by omega)).trans a1
  have d2 : w2.heap[w.heap.size + 2]? = _ := (hb2.block _ (by omega)).trans a2
  have d3 : w2.heap[w.heap.size + 3]? = _ := (hb2.block _ (by omega)).trans a3
  have hb : Below w.heap.size w w2 := hB1.trans (hb2.mono (by omega))
  clear a0 a1 a2 a3 hb2 hB1
  obtain ⟨c0, c1, c2, c3, c4, c5⟩ := cells6 d0
  obtain ⟨o0, -, -, -, -, o5, -, -⟩ := cells8 d1
  have Brt := (unhide HI).rows t ht
  have rt := ((unhide HI).below hb).rows t ht
  have t0 : (0 : Int) ≤ (t : Int) := by omega
  have t1 : (t : Int) < (T : Int) := by omega
  clear Brt
  go_upto_region 7 with fail
  go_cut [37] (fun _ wx => ∃ h k, Hid (Chg (fun j => j = w.heap.size) w2 wx) ∧ wx.heap[w.heap.size]? = some (.cells #[.int .i64 (T : Int), .int .i64 sp, .slice A len cap, .slice (some ⟨ρ.rb, 0, none⟩) T ρ.rc, .slice (some ⟨h, 0, none⟩) (G.n + 1) k, .slice (some ⟨ρ.fb, 0, none⟩) G.n ρ.fc] 49 (0, 0)) ∧ w2.heap.size ≤ h ∧ Hid (∀ x, x < G.n + 1 → wx.cell? ⟨h, x, none⟩ = some (.int .i64 ((G.more s).sh (x + 1) : Nat))))
  case first =>
    have HOLD : Hid (∀ W, Below w2.heap.size w2 W → ∀ j u, ((List.range G.n).map fun x => Value.int .i64 (G.sh (x + 1) : Nat))[j]? = some u → W.cell? ((⟨ρ.sb, 0, none⟩ : Addr).add j) = some u) := hide (fun W hW => news_at (fun x hx => ((unhide HI).below (hb.trans (hW.mono (by omega)))).shp x hx))
    obtain ⟨xs, hxs⟩ : ∃ xs, xs = (List.range G.n).map fun x => Value.int .i64 (G.sh (x + 1) : Nat) := ⟨_, rfl⟩
    have hxl : xs.length = G.n := by rw [hxs]; simp
    rw [← hxs] at HOLD
    have HX := hide hxs
    clear hxs
    obtain ⟨i0, hi, hz0, hz1', hz2'⟩ := inf_i
    have INT := hide (show _ ∧ _ ∧ _ ∧ _ from ⟨hi, hz0, hz1', hz2'⟩)
    clear hi hz0 hz1' hz2'
    have HF := hide d0
    have HEND : Hid (∀ h k W, Below w2.heap.size w2 W → W.ownsRow w2.heap.size 3 1 (.slice (some ⟨h, 0, none⟩) (0 + G.n + 1) k) (0 + G.n + 1) (([] ++ xs) ++ [.int .i64 (s : Int)]) → ∀ W', W' = W.setCell ⟨w.heap.size, 4, none⟩ (.slice (some ⟨h, 0, none⟩) (G.n + 1) k) →
        ∃ h k, Hid (Chg (fun j => j = w.heap.size) w2 W') ∧ W'.heap[w.heap.size]? = some (.cells #[.int .i64 (T : Int), .int .i64 sp, .slice A len cap, .slice (some ⟨ρ.rb, 0, none⟩) T ρ.rc, .slice (some ⟨h, 0, none⟩) (G.n + 1) k, .slice (some ⟨ρ.fb, 0, none⟩) G.n ρ.fc] 49 (0, 0)) ∧ w2.heap.size ≤ h ∧ Hid (∀ x, x < G.n + 1 → W'.cell? ⟨h, x, none⟩ = some (.int .i64 ((G.more s).sh (x + 1) : Nat)))) := hide (fun h k W hW how W' hW' => by
      subst hW'
      rw [Nat.zero_add] at how
      obtain ⟨h9, k9, e9, hb9, hl9, hc9, -⟩ := own_form how (by omega)
      injection e9 with e9 _ _
      injection e9 with e9
      injection e9 with e9 _ _
      subst e9
      refine ⟨h, k, hide ((Chg.of hW).set1' (by rfl) _), (heap_setCell_same W _ 4 _ _ _ ((hW.block _ (by omega)).trans (unhide HF))).trans rfl, hb9, hide (fun x hx => ?_)⟩
      rw [World.cell?_setCell_other _ _ _ _ (fun e => by injection e with e _ _; omega)]
      refine hc9 x _ ?_
      rw [List.nil_append, unhide HX]
      by_cases e : x = G.n
      · subst e
        rw [List.getElem?_append_right (by simp), List.length_map, List.length_range, Nat.sub_self]
        show _ = some (Value.int .i64 ((if G.n + 1 = G.n + 1 then s else G.sh (G.n + 1) : Nat) : Int))
        rw [if_pos rfl]
        rfl
      · rw [List.getElem?_append_left (by simp; omega), at_news (by omega)]
        show _ = some (Value.int .i64 ((if x + 1 = G.n + 1 then s else G.sh (x + 1) : Nat) : Int))
        rw [if_neg (by omega)])
    have uc0 := Later.cell (block_lt c0) c0
    have uc1 := Later.cell (block_lt c1) c1
    have uc2 := Later.cell (block_lt c2) c2
    have uc3 := Later.cell (block_lt c3) c3
    have uc4 := Later.cell (block_lt c4) c4
    have uc5 := Later.cell (block_lt c5) c5
    have uo5 := Later.cell (block_lt o5) o5
    obtain ⟨wB, hwB⟩ : ∃ wB, wB = w2 := ⟨_, rfl⟩
    subst hwB
    refine wp_region_treeG_later [0, 0, 1, 0, 0, 1, 1, 0, 2] 8 [(6, 2), (6, 5)] wB (by kernel_rfl) (by kernel_rfl) (by repeat (first | exact Below.refl _ _ | assumption | refine Below.alloc ?_ (by first | (simp; done) | (simp; omega) | omega) _ | refine Below.setCell ?_ (by first | (simp; done) | (simp; omega) | omega) _ | apply Below.drew | refine Below.trans ?_ (Below.mono (by assumption) (by first | (simp; done) | (simp; omega) | omega)))) ?_; simp only [kblk, List.map_cons, List.map_nil, Nat.reduceBNe, diesOps_f, diesOps_t, diesOps_nil, bne_self_eq_false]; (repeat (first | go_big_quiet_skip | (go_big_quiet_want; (first | ((fail); go_big_quiet_on; simp only [Act.put, List.setIfInBounds_toArray, List.set_cons_zero, List.set_cons_succ]) | (go_big_quiet_op; (first | go_big_quiet_on | go_big_quiet_call ((fail)))))))); refine wpQuiet_nil ?_; rw [show sideIdx [0, 0, 1, 0, 0, 1, 1, 0, 2] 8 = [2, 5, 6] from by decide]; simp only [List.length_cons, List.length_nil, Nat.zero_add, Nat.reduceAdd]
    have hb0 : Below wB.heap.size wB wB.drew := (Below.refl _ wB).drew
    generalize wB.drew = v0 at hb0 ⊢
    unfold treeGp; rw [show freeT [(6, 2), (6, 5)] [2, 5, 6] = [2, 5] from by decide]; simp only [allL, List.getElem?_cons_zero, List.getElem?_cons_succ, List.erase_cons, beq_self_eq_true, if_true, Nat.reduceBEq, Bool.false_eq_true, if_false, and_true]
    refine ⟨?_, ?_⟩
    · refine ⟨fun _ => ?_, fun h => (Bool.false_ne_true (Eq.trans (Eq.symm h) (by rfl))).elim⟩
      simp only [applyP, List.nil_append, List.cons_append, List.foldl_cons, List.foldl_nil, Act.put, List.setIfInBounds_toArray, List.set_cons_zero, List.set_cons_succ]
      obtain ⟨hi, hz0, hz1', hz2'⟩ := unhide INT
      refine wpV_append (.const (.slice none 0 0)) (.tmp 32) _ rfl wB.heap.size 3 i0 (.int .i64 0) 1 8 Try.underlying46 hi hz0 hz1' hz2' rfl (by decide) _ _ _ rfl (World.ownsRow_nil _ _ _ _) ⟨ρ.sb, 0, none⟩ G.n ρ.sc xs rfl (by rw [hxl, Nat.mul_one]) (unhide HOLD _ hb0) (by rw [unhide HX]; simp [Value.oneCell']) (by simp only [maxLen]; omega) (by omega) hb0.size ?_
      intro y1 v1 how hgr
      have hb1 : Below wB.heap.size wB v1 := hb0.grown hgr hb0.size (fun r hr => by cases hr)
      have hz1 := hb1.size
      have HR1 := hide how
      clear how hgr hi hz0 hz1' hz2'
      refine ⟨hb1, ?_⟩
      unfold treeGp; rw [show freeT [(6, 2), (6, 5)] [5, 6] = [5] from by decide]; simp only [allL, List.getElem?_cons_zero, List.getElem?_cons_succ, List.erase_cons, beq_self_eq_true, if_true, Nat.reduceBEq, Bool.false_eq_true, if_false, and_true]
      refine ⟨fun _ => ?_, fun h => (Bool.false_ne_true (Eq.trans (Eq.symm h) (by rfl))).elim⟩
      unfold Oper.wpV; (try simp only [applyP, List.nil_append, List.cons_append, List.foldl_cons, List.foldl_nil, Act.put, List.setIfInBounds_toArray, List.set_cons_zero, List.set_cons_succ]); go_simp
      (try simp only [World.size_drew])
      generalize hv2 : World.alloc _ _ = v2
      have hc2 : v2.heap[v1.heap.size]? = some (Obj.cells #[.int .i64 (s : Int)] 3 (0, 0)) := by rw [← hv2]; exact heap_alloc_new _ _
      have hk2 : ∀ b, b < v1.heap.size → v2.heap[b]? = v1.heap[b]? := fun b hb => by rw [← hv2]; exact heap_alloc_old _ _ _ hb
      have hb2 : Below wB.heap.size wB v2 := by rw [← hv2]; exact hb1.alloc hb1.size _
      have hz2 := hb2.size
      have HR2 := hide (show v2.ownsRow _ _ _ _ _ _ by rw [← hv2]; exact (unhide HR1).alloc _)
      clear hv2
      refine ⟨hb2, ?_⟩
      unfold treeGp; rw [show freeT [(6, 2), (6, 5)] [6] = [6] from by decide]; simp only [allL, List.getElem?_cons_zero, List.getElem?_cons_succ, List.erase_cons, beq_self_eq_true, if_true, Nat.reduceBEq, Bool.false_eq_true, if_false, and_true]
      refine ⟨fun _ => ?_, fun h => (Bool.false_ne_true (Eq.trans (Eq.symm h) (by rfl))).elim⟩
      simp only [applyP, List.nil_append, List.cons_append, List.foldl_cons, List.foldl_nil, Act.put, List.setIfInBounds_toArray, List.set_cons_zero, List.set_cons_succ]
      obtain ⟨hi, hz0, hz1', hz2'⟩ := unhide INT
      refine wpV_append (.tmp 33) (.tmp 36) _ rfl wB.heap.size 3 i0 (.int .i64 0) 1 8 Try.underlying46 hi hz0 hz1' hz2' rfl (by decide) _ _ _ rfl (unhide HR2) ⟨v1.heap.size, 0, none⟩ 1 1 [.int .i64 (s : Int)] rfl rfl (one_cell hc2) (by simp [Value.oneCell']) (by simp only [maxLen]; omega) (by omega) hb2.size ?_
      intro y3 v3 how hgr
      have hb3 : Below wB.heap.size wB v3 := hb2.grown hgr hb2.size (fun r hr => ((unhide HR2).lt r hr).1)
      have hz3 := hb3.size
      clear hgr hi hz0 hz1' hz2'
      refine ⟨hb3, ?_⟩
      obtain ⟨g9, k9, rfl, -⟩ := own_form how (by omega)
      have hq := (hb3.block _ (by omega)).trans d0
      have q4 : v3.cell? ⟨w.heap.size, 4, none⟩ = some (.slice (some ⟨ρ.sb, 0, none⟩) G.n ρ.sc) := Lib.cell_of_heap hq 4
      have qf : v3.frozen? ⟨w.heap.size, 4, none⟩ = false := by simp [World.frozen?, hq]
      unfold treeGp; simp only [applyP, List.nil_append, List.cons_append, List.foldl_cons, List.foldl_nil, Act.put, List.setIfInBounds_toArray, List.set_cons_zero, List.set_cons_succ, List.drop_succ_cons, List.drop_zero]
      go_wp2_with fail
      go_meet
      exact unhide HEND _ _ _ hb3 how _ rfl
    · refine ⟨fun _ => ?_, fun h => (Bool.false_ne_true (Eq.trans (Eq.symm h) (by rfl))).elim⟩
      unfold Oper.wpV; (try simp only [applyP, List.nil_append, List.cons_append, List.foldl_cons, List.foldl_nil, Act.put, List.setIfInBounds_toArray, List.set_cons_zero, List.set_cons_succ]); go_simp
      (try simp only [World.size_drew])
      generalize hv4 : World.alloc _ _ = v4
      have hc4 : v4.heap[v0.heap.size]? = some (Obj.cells #[.int .i64 (s : Int)] 3 (0, 0)) := by rw [← hv4]; exact heap_alloc_new _ _
      have hk4 : ∀ b, b < v0.heap.size → v4.heap[b]? = v0.heap[b]? := fun b hb => by rw [← hv4]; exact heap_alloc_old _ _ _ hb
      have hb4 : Below wB.heap.size wB v4 := by rw [← hv4]; exact hb0.alloc hb0.size _
      have hz4 := hb4.size
      clear hv4
      refine ⟨hb4, ?_⟩
      unfold treeGp; rw [show freeT [(6, 2), (6, 5)] [2, 6] = [2] from by decide]; simp only [allL, List.getElem?_cons_zero, List.getElem?_cons_succ, List.erase_cons, beq_self_eq_true, if_true, Nat.reduceBEq, Bool.false_eq_true, if_false, and_true]
      refine ⟨fun _ => ?_, fun h => (Bool.false_ne_true (Eq.trans (Eq.symm h) (by rfl))).elim⟩
      simp only [applyP, List.nil_append, List.cons_append, List.foldl_cons, List.foldl_nil, Act.put, List.setIfInBounds_toArray, List.set_cons_zero, List.set_cons_succ]
      obtain ⟨hi, hz0, hz1', hz2'⟩ := unhide INT
      refine wpV_append (.const (.slice none 0 0)) (.tmp 32) _ rfl wB.heap.size 3 i0 (.int .i64 0) 1 8 Try.underlying46 hi hz0 hz1' hz2' rfl (by decide) _ _ _ rfl (World.ownsRow_nil _ _ _ _) ⟨ρ.sb, 0, none⟩ G.n ρ.sc xs rfl (by rw [hxl, Nat.mul_one]) (unhide HOLD _ hb4) (by rw [unhide HX]; simp [Value.oneCell']) (by simp only [maxLen]; omega) (by omega) hb4.size ?_
      intro y5 v5 how hgr
      have hb5 : Below wB.heap.size wB v5 := hb4.grown hgr hb4.size (fun r hr => by cases hr)
      have hz5 := hb5.size
      have HR5 := hide how
      have hl5q := (Array.getElem?_eq_some_iff.1 hc4).1
      have hd5q := (hgr.block _ hl5q (fun e => by cases e)).trans hc4
      clear how hgr hi hz0 hz1' hz2'
      refine ⟨hb5, ?_⟩
      unfold treeGp; rw [show freeT [(6, 2), (6, 5)] [6] = [6] from by decide]; simp only [allL, List.getElem?_cons_zero, List.getElem?_cons_succ, List.erase_cons, beq_self_eq_true, if_true, Nat.reduceBEq, Bool.false_eq_true, if_false, and_true]
      refine ⟨fun _ => ?_, fun h => (Bool.false_ne_true (Eq.trans (Eq.symm h) (by rfl))).elim⟩
      simp only [applyP, List.nil_append, List.cons_append, List.foldl_cons, List.foldl_nil, Act.put, List.setIfInBounds_toArray, List.set_cons_zero, List.set_cons_succ]
      obtain ⟨hi, hz0, hz1', hz2'⟩ := unhide INT
      refine wpV_append (.tmp 33) (.tmp 36) _ rfl wB.heap.size 3 i0 (.int .i64 0) 1 8 Try.underlying46 hi hz0 hz1' hz2' rfl (by decide) _ _ _ rfl (unhide HR5) ⟨v0.heap.size, 0, none⟩ 1 1 [.int .i64 (s : Int)] rfl rfl (one_cell hd5q) (by simp [Value.oneCell']) (by simp only [maxLen]; omega) (by omega) hb5.size ?_
      intro y6 v6 how hgr
      have hb6 : Below wB.heap.size wB v6 := hb5.grown hgr hb5.size (fun r hr => ((unhide HR5).lt r hr).1)
      have hz6 := hb6.size
      clear hgr hi hz0 hz1' hz2'
      refine ⟨hb6, ?_⟩
      obtain ⟨g9, k9, rfl, -⟩ := own_form how (by omega)
      have hq := (hb6.block _ (by omega)).trans d0
      have q4 : v6.cell? ⟨w.heap.size, 4, none⟩ = some (.slice (some ⟨ρ.sb, 0, none⟩) G.n ρ.sc) := Lib.cell_of_heap hq 4
      have qf : v6.frozen? ⟨w.heap.size, 4, none⟩ = false := by simp [World.frozen?, hq]
      unfold treeGp; simp only [applyP, List.nil_append, List.cons_append, List.foldl_cons, List.foldl_nil, Act.put, List.setIfInBounds_toArray, List.set_cons_zero, List.set_cons_succ, List.drop_succ_cons, List.drop_zero]
      go_wp2_with fail
      go_meet
      exact unhide HEND _ _ _ hb6 how _ rfl
  case rest =>
    obtain ⟨wA, hwA⟩ : ∃ wA, wA = wc := ⟨_, rfl⟩
    subst hwA
    obtain ⟨h, k, HC, e0, hh, HSH⟩ := hcut
    clear c0 c1 c2 c3 c4 c5 o0 o5
    have hz3 := (unhide HC).size
    have e1 : wA.heap[w.heap.size + 1]? = _ := ((unhide HC).block _ (by omega) (by omega)).trans d1
    obtain ⟨g, oo, eA, hgl, hcs⟩ := HS (by omega)
    have hstr : wA.cell? ⟨g, oo + s, none⟩ = some (.string (S s)) := ((unhide HC).cell (o := oo + s) (show g < w2.heap.size by omega) (show ¬ g = w.heap.size by omega)).trans ((hb.cell (p := ⟨g, oo + s, none⟩) hgl).trans (hcs s ls))
    have HFL : Hid (∀ W, Below wA.heap.size wA W → ∀ j u, ((List.range G.n).map fun x => Value.slice (some ⟨ρ.fh x, 0, none⟩) (S (G.sh (x + 1))).size (ρ.fhc x))[j]? = some u → W.cell? ((⟨ρ.fb, 0, none⟩ : Addr).add j) = some u) := hide (fun W hW => news_at (fun x hx => by
      have h1 := (unhide HI).flds x hx
      exact cell_below hW (((unhide HC).cell (o := x) (show ρ.fb < w2.heap.size by have : ρ.fb < w.heap.size := block_lt h1; omega) (show ¬ ρ.fb = w.heap.size by have : ρ.fb < w.heap.size := block_lt h1; omega)).trans (cell_below hb h1))))
    subst eA
    obtain ⟨xs, hxs⟩ : ∃ xs, xs = (List.range G.n).map fun x => Value.slice (some ⟨ρ.fh x, 0, none⟩) (S (G.sh (x + 1))).size (ρ.fhc x) := ⟨_, rfl⟩
    have hxl : xs.length = G.n := by rw [hxs]; simp
    rw [← hxs] at HFL
    have HX := hide hxs
    clear hxs hcs
    obtain ⟨i2, mi, mz0, mz1, mz2⟩ := inf_q
    obtain ⟨mc, hmc⟩ : ∃ mc, mc = madeCells (Value.int .i64 0).cells ((S s).size * 1) := ⟨_, rfl⟩
    have hmk : ∀ W, (Instr.makeSlice 89 (.int .i64 ((S s).size : Int)) (.int .i64 ((S s).size : Int))).run Try.prog W = .ok (.slice (some ⟨W.heap.size, 0, none⟩) (S s).size (S s).size) (W.alloc (.cells mc 2)) := fun W => by
      rw [run_make_rowN (P := Try.prog) 89 2 i2 _ Try.underlying89 mi mz0 .i64 .i64 (S s).size (S s).size (Nat.le_refl _) (by rw [mz2]; omega) (by omega) W, mz1, hmc]
    have HMC : Hid (∀ f, f < (S s).size → mc[f]? = some (.int .i64 0)) := hide (fun f hf => by
      rw [hmc, Nat.mul_one]
      show (madeCells #[Value.int .i64 0] (S s).size)[f]? = _
      rw [← Array.getElem?_toList, toList_madeCells_one, List.getElem?_replicate, if_pos hf])
    clear hmc mi mz0 mz1 mz2
    obtain ⟨c0, c1, c2, c3, c4, c5⟩ := cells6 e0
    have o5 : wA.cell? ⟨w.heap.size + 1, 5, none⟩ = some (.int .i64 (s : Int)) := Lib.cell_of_heap e1 5
    have s0 : (0 : Int) ≤ (s : Int) := by omega
    have s1 : (s : Int) < (len : Int) := by omega
    go_upto_region 8 with fail
    go_cut [52] (fun _ wx => ∃ h' k' hm, Hid (Chg (fun j => j = w.heap.size) wA wx) ∧ wx.heap[w.heap.size]? = some (.cells #[.int .i64 (T : Int), .int .i64 sp, .slice (some ⟨g, oo, none⟩) len cap, .slice (some ⟨ρ.rb, 0, none⟩) T ρ.rc, .slice (some ⟨h, 0, none⟩) (G.n + 1) k, .slice (some ⟨h', 0, none⟩) (G.n + 1) k'] 49 (0, 0)) ∧ wA.heap.size ≤ h' ∧ wA.heap.size ≤ hm ∧ Hid (∀ x, x < G.n + 1 → wx.cell? ⟨h', x, none⟩ = some (.slice (some ⟨if x = G.n then hm else ρ.fh x, 0, none⟩) (S ((G.more s).sh (x + 1))).size (if x = G.n then (S s).size else ρ.fhc x))) ∧ Hid (∀ f, f < (S s).size → wx.cell? ⟨hm, f, none⟩ = some (.int .i64 0)))
    case first =>
      obtain ⟨i0, hi, hz0, hz1', hz2'⟩ := inf_qs
      have INT := hide (show _ ∧ _ ∧ _ ∧ _ from ⟨hi, hz0, hz1', hz2'⟩)
      clear hi hz0 hz1' hz2'
      have HF := hide e0
      have HEND : Hid (∀ h' k' hm W, Below wA.heap.size wA W → wA.heap.size ≤ hm → W.heap[hm]? = some (Obj.cells mc 2 (0, 0)) → W.ownsRow wA.heap.size 89 1 (.slice (some ⟨h', 0, none⟩) (0 + G.n + 1) k') (0 + G.n + 1) (([] ++ xs) ++ [.slice (some ⟨hm, 0, none⟩) (S s).size (S s).size]) → ∀ W', W' = W.setCell ⟨w.heap.size, 5, none⟩ (.slice (some ⟨h', 0, none⟩) (G.n + 1) k') →
          ∃ h' k' hm, Hid (Chg (fun j => j = w.heap.size) wA W') ∧ W'.heap[w.heap.size]? = some (.cells #[.int .i64 (T : Int), .int .i64 sp, .slice (some ⟨g, oo, none⟩) len cap, .slice (some ⟨ρ.rb, 0, none⟩) T ρ.rc, .slice (some ⟨h, 0, none⟩) (G.n + 1) k, .slice (some ⟨h', 0, none⟩) (G.n + 1) k'] 49 (0, 0)) ∧ wA.heap.size ≤ h' ∧ wA.heap.size ≤ hm ∧ Hid (∀ x, x < G.n + 1 → W'.cell? ⟨h', x, none⟩ = some (.slice (some ⟨if x = G.n then hm else ρ.fh x, 0, none⟩) (S ((G.more s).sh (x + 1))).size (if x = G.n then (S s).size else ρ.fhc x))) ∧ Hid (∀ f, f < (S s).size → W'.cell? ⟨hm, f, none⟩ = some (.int .i64 0))) := hide (fun h' k' hm W hW hmw hmb how W' hW' => by
        subst hW'
        rw [Nat.zero_add] at how
        obtain ⟨h9, k9, e9, hb9, hl9, hc9, -⟩ := own_form how (by omega)
        injection e9 with e9 _ _
        injection e9 with e9
        injection e9 with e9 _ _
        subst e9
        refine ⟨h', k', hm, hide ((Chg.of hW).set1' (by rfl) _), (heap_setCell_same W _ 5 _ _ _ ((hW.block _ (by omega)).trans (unhide HF))).trans rfl, hb9, hmw, hide (fun x hx => ?_), hide (fun f hf => ?_)⟩
        · rw [World.cell?_setCell_other _ _ _ _ (fun e => by injection e with e _ _; omega)]
          refine hc9 x _ ?_
          rw [List.nil_append, unhide HX]
          by_cases e : x = G.n
          · subst e
            rw [List.getElem?_append_right (by simp), List.length_map, List.length_range, Nat.sub_self, if_pos rfl, if_pos rfl]
            show _ = some (Value.slice _ (S (if G.n + 1 = G.n + 1 then s else G.sh (G.n + 1))).size _)
            rw [if_pos rfl]
            rfl
          · rw [List.getElem?_append_left (by simp; omega), at_news (by omega), if_neg e, if_neg e]
            show _ = some (Value.slice _ (S (if x + 1 = G.n + 1 then s else G.sh (x + 1))).size _)
            rw [if_neg (by omega)]
        · rw [World.cell?_setCell_other _ _ _ _ (fun e => by injection e with e _ _; omega)]
          exact (Lib.cell_of_heap hmb f).trans (unhide HMC f hf))
      have uc0 := Later.cell (block_lt c0) c0
      have uc1 := Later.cell (block_lt c1) c1
      have uc2 := Later.cell (block_lt c2) c2
      have uc3 := Later.cell (block_lt c3) c3
      have uc4 := Later.cell (block_lt c4) c4
      have uc5 := Later.cell (block_lt c5) c5
      have uo5 := Later.cell (block_lt o5) o5
      have uhstr := Later.cell (block_lt hstr) hstr
      obtain ⟨wB, hwB⟩ : ∃ wB, wB = wA := ⟨_, rfl⟩
      subst hwB
      refine wp_region_treeG_later [0, 0, 1, 0, 0, 0, 0, 0, 0, 0, 1, 1, 1, 1, 0, 2] 15 [(11, 10), (12, 11), (13, 2), (13, 12)] wB (by kernel_rfl) (by kernel_rfl) (by repeat (first | exact Below.refl _ _ | assumption | refine Below.alloc ?_ (by first | (simp; done) | (simp; omega) | omega) _ | refine Below.setCell ?_ (by first | (simp; done) | (simp; omega) | omega) _ | apply Below.drew | refine Below.trans ?_ (Below.mono (by assumption) (by first | (simp; done) | (simp; omega) | omega)))) ?_; simp only [kblk, List.map_cons, List.map_nil, Nat.reduceBNe, diesOps_f, diesOps_t, diesOps_nil, bne_self_eq_false]; (repeat (first | go_big_quiet_skip | (go_big_quiet_want; (first | ((fail); go_big_quiet_on; simp only [Act.put, List.setIfInBounds_toArray, List.set_cons_zero, List.set_cons_succ]) | (go_big_quiet_op; (first | go_big_quiet_on | go_big_quiet_call ((fail)))))))); refine wpQuiet_nil ?_; rw [show sideIdx [0, 0, 1, 0, 0, 0, 0, 0, 0, 0, 1, 1, 1, 1, 0, 2] 15 = [2, 10, 11, 12, 13] from by decide]; simp only [List.length_cons, List.length_nil, Nat.zero_add, Nat.reduceAdd]
      have hb0 : Below wB.heap.size wB wB.drew := (Below.refl _ wB).drew
      generalize wB.drew = v0 at hb0 ⊢
      have hzz := hb0.size
      unfold treeGp; rw [show freeT [(11, 10), (12, 11), (13, 2), (13, 12)] [2, 10, 11, 12, 13] = [2, 10] from by decide]; simp only [allL, List.getElem?_cons_zero, List.getElem?_cons_succ, List.erase_cons, beq_self_eq_true, if_true, Nat.reduceBEq, Bool.false_eq_true, if_false, and_true]
      refine ⟨?_, ?_⟩
      · refine ⟨fun _ => ?_, fun h => (Bool.false_ne_true (Eq.trans (Eq.symm h) (by rfl))).elim⟩
        simp only [applyP, List.nil_append, List.cons_append, List.foldl_cons, List.foldl_nil, Act.put, List.setIfInBounds_toArray, List.set_cons_zero, List.set_cons_succ]
        obtain ⟨hi, hz0, hz1', hz2'⟩ := unhide INT
        refine wpV_append (.const (.slice none 0 0)) (.tmp 40) _ rfl wB.heap.size 89 i0 (.slice none 0 0) 1 24 Try.underlying47 hi hz0 hz1' hz2' rfl (by decide) _ _ _ rfl (World.ownsRow_nil _ _ _ _) ⟨ρ.fb, 0, none⟩ G.n ρ.fc xs rfl (by rw [hxl, Nat.mul_one]) (unhide HFL _ hb0) (by rw [unhide HX]; simp [Value.oneCell']) (by simp only [maxLen]; omega) (by omega) hb0.size ?_
        intro y1 v1 how hgr
        have hb1 : Below wB.heap.size wB v1 := hb0.grown hgr hb0.size (fun r hr => by cases hr)
        have hz1 := hb1.size
        have HR1 := hide how
        clear how hgr hi hz0 hz1' hz2'
        refine ⟨hb1, ?_⟩
        unfold treeGp; rw [show freeT [(11, 10), (12, 11), (13, 2), (13, 12)] [10, 11, 12, 13] = [10] from by decide]; simp only [allL, List.getElem?_cons_zero, List.getElem?_cons_succ, List.erase_cons, beq_self_eq_true, if_true, Nat.reduceBEq, Bool.false_eq_true, if_false, and_true]
        refine ⟨fun _ => ?_, fun h => (Bool.false_ne_true (Eq.trans (Eq.symm h) (by rfl))).elim⟩
        unfold Oper.wpV; (try simp only [applyP, List.nil_append, List.cons_append, List.foldl_cons, List.foldl_nil, Act.put, List.setIfInBounds_toArray, List.set_cons_zero, List.set_cons_succ]); go_simp
        unfold treeGp; rw [show freeT [(11, 10), (12, 11), (13, 2), (13, 12)] [11, 12, 13] = [11] from by decide]; simp only [allL, List.getElem?_cons_zero, List.getElem?_cons_succ, List.erase_cons, beq_self_eq_true, if_true, Nat.reduceBEq, Bool.false_eq_true, if_false, and_true]
        refine ⟨fun _ => ?_, fun h => (Bool.false_ne_true (Eq.trans (Eq.symm h) (by rfl))).elim⟩
        unfold Oper.wpV; (try simp only [applyP, List.nil_append, List.cons_append, List.foldl_cons, List.foldl_nil, Act.put, List.setIfInBounds_toArray, List.set_cons_zero, List.set_cons_succ]); go_simp
        (try simp only [World.size_drew])
        generalize hv2 : World.alloc _ _ = v2
        have hc2 : v2.heap[v1.heap.size]? = some (Obj.cells mc 2 (0, 0)) := by rw [← hv2]; exact heap_alloc_new _ _
        have hk2 : ∀ b, b < v1.heap.size → v2.heap[b]? = v1.heap[b]? := fun b hb => by rw [← hv2]; exact heap_alloc_old _ _ _ hb
        have hb2 : Below wB.heap.size wB v2 := by rw [← hv2]; exact hb1.alloc hb1.size _
        have hz2 := hb2.size
        have HR2 := hide (show v2.ownsRow _ _ _ _ _ _ by rw [← hv2]; exact (unhide HR1).alloc _)
        clear hv2
        refine ⟨hb2, ?_⟩
        unfold treeGp; rw [show freeT [(11, 10), (12, 11), (13, 2), (13, 12)] [12, 13] = [12] from by decide]; simp only [allL, List.getElem?_cons_zero, List.getElem?_cons_succ, List.erase_cons, beq_self_eq_true, if_true, Nat.reduceBEq, Bool.false_eq_true, if_false, and_true]
        refine ⟨fun _ => ?_, fun h => (Bool.false_ne_true (Eq.trans (Eq.symm h) (by rfl))).elim⟩
        unfold Oper.wpV; (try simp only [applyP, List.nil_append, List.cons_append, List.foldl_cons, List.foldl_nil, Act.put, List.setIfInBounds_toArray, List.set_cons_zero, List.set_cons_succ]); go_simp
        (try simp only [World.size_drew])
        generalize hv3 : World.alloc _ _ = v3
        have hc3 : v3.heap[v2.heap.size]? = some (Obj.cells #[.slice (some ⟨v1.heap.size, 0, none⟩) (S s).size (S s).size] 89 (0, 0)) := by rw [← hv3]; exact heap_alloc_new _ _
        have hk3 : ∀ b, b < v2.heap.size → v3.heap[b]? = v2.heap[b]? := fun b hb => by rw [← hv3]; exact heap_alloc_old _ _ _ hb
        have hb3 : Below wB.heap.size wB v3 := by rw [← hv3]; exact hb2.alloc hb2.size _
        have hz3 := hb3.size
        have HR3 := hide (show v3.ownsRow _ _ _ _ _ _ by rw [← hv3]; exact (unhide HR2).alloc _)
        have hl3m := (Array.getElem?_eq_some_iff.1 hc2).1
        have hd3m := (hk3 _ hl3m).trans hc2
        clear hv3
        refine ⟨hb3, ?_⟩
        unfold treeGp; rw [show freeT [(11, 10), (12, 11), (13, 2), (13, 12)] [13] = [13] from by decide]; simp only [allL, List.getElem?_cons_zero, List.getElem?_cons_succ, List.erase_cons, beq_self_eq_true, if_true, Nat.reduceBEq, Bool.false_eq_true, if_false, and_true]
        refine ⟨fun _ => ?_, fun h => (Bool.false_ne_true (Eq.trans (Eq.symm h) (by rfl))).elim⟩
        simp only [applyP, List.nil_append, List.cons_append, List.foldl_cons, List.foldl_nil, Act.put, List.setIfInBounds_toArray, List.set_cons_zero, List.set_cons_succ]
        obtain ⟨hi, hz0, hz1', hz2'⟩ := unhide INT
        refine wpV_append (.tmp 41) (.tmp 51) _ rfl wB.heap.size 89 i0 (.slice none 0 0) 1 24 Try.underlying47 hi hz0 hz1' hz2' rfl (by decide) _ _ _ rfl (unhide HR3) ⟨v2.heap.size, 0, none⟩ 1 1 [.slice (some ⟨v1.heap.size, 0, none⟩) (S s).size (S s).size] rfl rfl (one_cell hc3) (by simp [Value.oneCell']) (by simp only [maxLen]; omega) (by omega) hb3.size ?_
        intro y4 v4 how hgr
        have hb4 : Below wB.heap.size wB v4 := hb3.grown hgr hb3.size (fun r hr => ((unhide HR3).lt r hr).1)
        have hz4 := hb4.size
        have hl4m := (Array.getElem?_eq_some_iff.1 hd3m).1
        have hd4m := (hgr.block _ hl4m (fun e => by
          obtain ⟨cur, hcur⟩ := own_type (unhide HR3) _ e.symm
          rw [hd3m] at hcur
          cases hcur)).trans hd3m
        clear hgr hi hz0 hz1' hz2'
        refine ⟨hb4, ?_⟩
        obtain ⟨g9, k9, rfl, -⟩ := own_form how (by omega)
        have hq := (hb4.block _ (by omega)).trans e0
        have q5 : v4.cell? ⟨w.heap.size, 5, none⟩ = some (.slice (some ⟨ρ.fb, 0, none⟩) G.n ρ.fc) := Lib.cell_of_heap hq 5
        have qf : v4.frozen? ⟨w.heap.size, 5, none⟩ = false := by simp [World.frozen?, hq]
        unfold treeGp; simp only [applyP, List.nil_append, List.cons_append, List.foldl_cons, List.foldl_nil, Act.put, List.setIfInBounds_toArray, List.set_cons_zero, List.set_cons_succ, List.drop_succ_cons, List.drop_zero]
        go_wp2_with fail
        go_meet
        exact unhide HEND _ _ _ _ hb4 (by omega) hd4m how _ rfl
      · refine ⟨fun _ => ?_, fun h => (Bool.false_ne_true (Eq.trans (Eq.symm h) (by rfl))).elim⟩
        unfold Oper.wpV; (try simp only [applyP, List.nil_append, List.cons_append, List.foldl_cons, List.foldl_nil, Act.put, List.setIfInBounds_toArray, List.set_cons_zero, List.set_cons_succ]); go_simp
        unfold treeGp; rw [show freeT [(11, 10), (12, 11), (13, 2), (13, 12)] [2, 11, 12, 13] = [2, 11] from by decide]; simp only [allL, List.getElem?_cons_zero, List.getElem?_cons_succ, List.erase_cons, beq_self_eq_true, if_true, Nat.reduceBEq, Bool.false_eq_true, if_false, and_true]
        refine ⟨?_, ?_⟩
        · refine ⟨fun _ => ?_, fun h => (Bool.false_ne_true (Eq.trans (Eq.symm h) (by rfl))).elim⟩
          simp only [applyP, List.nil_append, List.cons_append, List.foldl_cons, List.foldl_nil, Act.put, List.setIfInBounds_toArray, List.set_cons_zero, List.set_cons_succ]
          obtain ⟨hi, hz0, hz1', hz2'⟩ := unhide INT
          refine wpV_append (.const (.slice none 0 0)) (.tmp 40) _ rfl wB.heap.size 89 i0 (.slice none 0 0) 1 24 Try.underlying47 hi hz0 hz1' hz2' rfl (by decide) _ _ _ rfl (World.ownsRow_nil _ _ _ _) ⟨ρ.fb, 0, none⟩ G.n ρ.fc xs rfl (by rw [hxl, Nat.mul_one]) (unhide HFL _ hb0) (by rw [unhide HX]; simp [Value.oneCell']) (by simp only [maxLen]; omega) (by omega) hb0.size ?_
          intro y5 v5 how hgr
          have hb5 : Below wB.heap.size wB v5 := hb0.grown hgr hb0.size (fun r hr => by cases hr)
          have hz5 := hb5.size
          have HR5 := hide how
          clear how hgr hi hz0 hz1' hz2'
          refine ⟨hb5, ?_⟩
          unfold treeGp; rw [show freeT [(11, 10), (12, 11), (13, 2), (13, 12)] [11, 12, 13] = [11] from by decide]; simp only [allL, List.getElem?_cons_zero, List.getElem?_cons_succ, List.erase_cons, beq_self_eq_true, if_true, Nat.reduceBEq, Bool.false_eq_true, if_false, and_true]
          refine ⟨fun _ => ?_, fun h => (Bool.false_ne_true (Eq.trans (Eq.symm h) (by rfl))).elim⟩
          unfold Oper.wpV; (try simp only [applyP, List.nil_append, List.cons_append, List.foldl_cons, List.foldl_nil, Act.put, List.setIfInBounds_toArray, List.set_cons_zero, List.set_cons_succ]); go_simp
          (try simp only [World.size_drew])
          generalize hv6 : World.alloc _ _ = v6
          have hc6 : v6.heap[v5.heap.size]? = some (Obj.cells mc 2 (0, 0)) := by rw [← hv6]; exact heap_alloc_new _ _
          have hk6 : ∀ b, b < v5.heap.size → v6.heap[b]? = v5.heap[b]? := fun b hb => by rw [← hv6]; exact heap_alloc_old _ _ _ hb
          have hb6 : Below wB.heap.size wB v6 := by rw [← hv6]; exact hb5.alloc hb5.size _
          have hz6 := hb6.size
          have HR6 := hide (show v6.ownsRow _ _ _ _ _ _ by rw [← hv6]; exact (unhide HR5).alloc _)
          clear hv6
          refine ⟨hb6, ?_⟩
          unfold treeGp; rw [show freeT [(11, 10), (12, 11), (13, 2), (13, 12)] [12, 13] = [12] from by decide]; simp only [allL, List.getElem?_cons_zero, List.getElem?_cons_succ, List.erase_cons, beq_self_eq_true, if_true, Nat.reduceBEq, Bool.false_eq_true, if_false, and_true]
          refine ⟨fun _ => ?_, fun h => (Bool.false_ne_true (Eq.trans (Eq.symm h) (by rfl))).elim⟩
          unfold Oper.wpV; (try simp only [applyP, List.nil_append, List.cons_append, List.foldl_cons, List.foldl_nil, Act.put, List.setIfInBounds_toArray, List.set_cons_zero, List.set_cons_succ]); go_simp
          (try simp only [World.size_drew])
          generalize hv7 : World.alloc _ _ = v7
          have hc7 : v7.heap[v6.heap.size]? = some (Obj.cells #[.slice (some ⟨v5.heap.size, 0, none⟩) (S s).size (S s).size] 89 (0, 0)) := by rw [← hv7]; exact heap_alloc_new _ _
          have hk7 : ∀ b, b < v6.heap.size → v7.heap[b]? = v6.heap[b]? := fun b hb => by rw [← hv7]; exact heap_alloc_old _ _ _ hb
          have hb7 : Below wB.heap.size wB v7 := by rw [← hv7]; exact hb6.alloc hb6.size _
          have hz7 := hb7.size
          have HR7 := hide (show v7.ownsRow _ _ _ _ _ _ by rw [← hv7]; exact (unhide HR6).alloc _)
          have hl7m := (Array.getElem?_eq_some_iff.1 hc6).1
          have hd7m := (hk7 _ hl7m).trans hc6
          clear hv7
          refine ⟨hb7, ?_⟩
          unfold treeGp; rw [show freeT [(11, 10), (12, 11), (13, 2), (13, 12)] [13] = [13] from by decide]; simp only [allL, List.getElem?_cons_zero, List.getElem?_cons_succ, List.erase_cons, beq_self_eq_true, if_true, Nat.reduceBEq, Bool.false_eq_true, if_false, and_true]
          refine ⟨fun _ => ?_, fun h => (Bool.false_ne_true (Eq.trans (Eq.symm h) (by rfl))).elim⟩
          simp only [applyP, List.nil_append, List.cons_append, List.foldl_cons, List.foldl_nil, Act.put, List.setIfInBounds_toArray, List.set_cons_zero, List.set_cons_succ]
          obtain ⟨hi, hz0, hz1', hz2'⟩ := unhide INT
          refine wpV_append (.tmp 41) (.tmp 51) _ rfl wB.heap.size 89 i0 (.slice none 0 0) 1 24 Try.underlying47 hi hz0 hz1' hz2' rfl (by decide) _ _ _ rfl (unhide HR7) ⟨v6.heap.size, 0, none⟩ 1 1 [.slice (some ⟨v5.heap.size, 0, none⟩) (S s).size (S s).size] rfl rfl (one_cell hc7) (by simp [Value.oneCell']) (by simp only [maxLen]; omega) (by omega) hb7.size ?_
          intro y8 v8 how hgr
          have hb8 : Below wB.heap.size wB v8 := hb7.grown hgr hb7.size (fun r hr => ((unhide HR7).lt r hr).1)
          have hz8 := hb8.size
          have hl8m := (Array.getElem?_eq_some_iff.1 hd7m).1
          have hd8m := (hgr.block _ hl8m (fun e => by
            obtain ⟨cur, hcur⟩ := own_type (unhide HR7) _ e.symm
            rw [hd7m] at hcur
            cases hcur)).trans hd7m
          clear hgr hi hz0 hz1' hz2'
          refine ⟨hb8, ?_⟩
          obtain ⟨g9, k9, rfl, -⟩ := own_form how (by omega)
          have hq := (hb8.block _ (by omega)).trans e0
          have q5 : v8.cell? ⟨w.heap.size, 5, none⟩ = some (.slice (some ⟨ρ.fb, 0, none⟩) G.n ρ.fc) := Lib.cell_of_heap hq 5
          have qf : v8.frozen? ⟨w.heap.size, 5, none⟩ = false := by simp [World.frozen?, hq]
          unfold treeGp; simp only [applyP, List.nil_append, List.cons_append, List.foldl_cons, List.foldl_nil, Act.put, List.setIfInBounds_toArray, List.set_cons_zero, List.set_cons_succ, List.drop_succ_cons, List.drop_zero]
          go_wp2_with fail
          go_meet
          exact unhide HEND _ _ _ _ hb8 (by omega) hd8m how _ rfl
        · refine ⟨fun _ => ?_, fun h => (Bool.false_ne_true (Eq.trans (Eq.symm h) (by rfl))).elim⟩
          unfold Oper.wpV; (try simp only [applyP, List.nil_append, List.cons_append, List.foldl_cons, List.foldl_nil, Act.put, List.setIfInBounds_toArray, List.set_cons_zero, List.set_cons_succ]); go_simp
          (try simp only [World.size_drew])
          generalize hv9 : World.alloc _ _ = v9
          have hc9 : v9.heap[v0.heap.size]? = some (Obj.cells mc 2 (0, 0)) := by rw [← hv9]; exact heap_alloc_new _ _
          have hk9 : ∀ b, b < v0.heap.size → v9.heap[b]? = v0.heap[b]? := fun b hb => by rw [← hv9]; exact heap_alloc_old _ _ _ hb
          have hb9 : Below wB.heap.size wB v9 := by rw [← hv9]; exact hb0.alloc hb0.size _
          have hz9 := hb9.size
          clear hv9
          refine ⟨hb9, ?_⟩
          unfold treeGp; rw [show freeT [(11, 10), (12, 11), (13, 2), (13, 12)] [2, 12, 13] = [2, 12] from by decide]; simp only [allL, List.getElem?_cons_zero, List.getElem?_cons_succ, List.erase_cons, beq_self_eq_true, if_true, Nat.reduceBEq, Bool.false_eq_true, if_false, and_true]
          refine ⟨?_, ?_⟩
          · refine ⟨fun _ => ?_, fun h => (Bool.false_ne_true (Eq.trans (Eq.symm h) (by rfl))).elim⟩
            simp only [applyP, List.nil_append, List.cons_append, List.foldl_cons, List.foldl_nil, Act.put, List.setIfInBounds_toArray, List.set_cons_zero, List.set_cons_succ]
            obtain ⟨hi, hz0, hz1', hz2'⟩ := unhide INT
            refine wpV_append (.const (.slice none 0 0)) (.tmp 40) _ rfl wB.heap.size 89 i0 (.slice none 0 0) 1 24 Try.underlying47 hi hz0 hz1' hz2' rfl (by decide) _ _ _ rfl (World.ownsRow_nil _ _ _ _) ⟨ρ.fb, 0, none⟩ G.n ρ.fc xs rfl (by rw [hxl, Nat.mul_one]) (unhide HFL _ hb9) (by rw [unhide HX]; simp [Value.oneCell']) (by simp only [maxLen]; omega) (by omega) hb9.size ?_
            intro y10 v10 how hgr
            have hb10 : Below wB.heap.size wB v10 := hb9.grown hgr hb9.size (fun r hr => by cases hr)
            have hz10 := hb10.size
            have HR10 := hide how
            have hl10m := (Array.getElem?_eq_some_iff.1 hc9).1
            have hd10m := (hgr.block _ hl10m (fun e => by cases e)).trans hc9
            clear how hgr hi hz0 hz1' hz2'
            refine ⟨hb10, ?_⟩
            unfold treeGp; rw [show freeT [(11, 10), (12, 11), (13, 2), (13, 12)] [12, 13] = [12] from by decide]; simp only [allL, List.getElem?_cons_zero, List.getElem?_cons_succ, List.erase_cons, beq_self_eq_true, if_true, Nat.reduceBEq, Bool.false_eq_true, if_false, and_true]
            refine ⟨fun _ => ?_, fun h => (Bool.false_ne_true (Eq.trans (Eq.symm h) (by rfl))).elim⟩
            unfold Oper.wpV; (try simp only [applyP, List.nil_append, List.cons_append, List.foldl_cons, List.foldl_nil, Act.put, List.setIfInBounds_toArray, List.set_cons_zero, List.set_cons_succ]); go_simp
            (try simp only [World.size_drew])
            generalize hv11 : World.alloc _ _ = v11
            have hc11 : v11.heap[v10.heap.size]? = some (Obj.cells #[.slice (some ⟨v0.heap.size, 0, none⟩) (S s).size (S s).size] 89 (0, 0)) := by rw [← hv11]; exact heap_alloc_new _ _
            have hk11 : ∀ b, b < v10.heap.size → v11.heap[b]? = v10.heap[b]? := fun b hb => by rw [← hv11]; exact heap_alloc_old _ _ _ hb
            have hb11 : Below wB.heap.size wB v11 := by rw [← hv11]; exact hb10.alloc hb10.size _
            have hz11 := hb11.size
            have HR11 := hide (show v11.ownsRow _ _ _ _ _ _ by rw [← hv11]; exact (unhide HR10).alloc _)
            have hl11m := (Array.getElem?_eq_some_iff.1 hd10m).1
            have hd11m := (hk11 _ hl11m).trans hd10m
            clear hv11
            refine ⟨hb11, ?_⟩
            unfold treeGp; rw [show freeT [(11, 10), (12, 11), (13, 2), (13, 12)] [13] = [13] from by decide]; simp only [allL, List.getElem?_cons_zero, List.getElem?_cons_succ, List.erase_cons, beq_self_eq_true, if_true, Nat.reduceBEq, Bool.false_eq_true, if_false, and_true]
            refine ⟨fun _ => ?_, fun h => (Bool.false_ne_true (Eq.trans (Eq.symm h) (by rfl))).elim⟩
            simp only [applyP, List.nil_append, List.cons_append, List.foldl_cons, List.foldl_nil, Act.put, List.setIfInBounds_toArray, List.set_cons_zero, List.set_cons_succ]
            obtain ⟨hi, hz0, hz1', hz2'⟩ := unhide INT
            refine wpV_append (.tmp 41) (.tmp 51) _ rfl wB.heap.size 89 i0 (.slice none 0 0) 1 24 Try.underlying47 hi hz0 hz1' hz2' rfl (by decide) _ _ _ rfl (unhide HR11) ⟨v10.heap.size, 0, none⟩ 1 1 [.slice (some ⟨v0.heap.size, 0, none⟩) (S s).size (S s).size] rfl rfl (one_cell hc11) (by simp [Value.oneCell']) (by simp only [maxLen]; omega) (by omega) hb11.size ?_
            intro y12 v12 how hgr
            have hb12 : Below wB.heap.size wB v12 := hb11.grown hgr hb11.size (fun r hr => ((unhide HR11).lt r hr).1)
            have hz12 := hb12.size
            have hl12m := (Array.getElem?_eq_some_iff.1 hd11m).1
            have hd12m := (hgr.block _ hl12m (fun e => by
              obtain ⟨cur, hcur⟩ := own_type (unhide HR11) _ e.symm
              rw [hd11m] at hcur
              cases hcur)).trans hd11m
            clear hgr hi hz0 hz1' hz2'
            refine ⟨hb12, ?_⟩
            obtain ⟨g9, k9, rfl, -⟩ := own_form how (by omega)
            have hq := (hb12.block _ (by omega)).trans e0
            have q5 : v12.cell? ⟨w.heap.size, 5, none⟩ = some (.slice (some ⟨ρ.fb, 0, none⟩) G.n ρ.fc) := Lib.cell_of_heap hq 5
            have qf : v12.frozen? ⟨w.heap.size, 5, none⟩ = false := by simp [World.frozen?, hq]
            unfold treeGp; simp only [applyP, List.nil_append, List.cons_append, List.foldl_cons, List.foldl_nil, Act.put, List.setIfInBounds_toArray, List.set_cons_zero, List.set_cons_succ, List.drop_succ_cons, List.drop_zero]
            go_wp2_with fail
            go_meet
            exact unhide HEND _ _ _ _ hb12 (by omega) hd12m how _ rfl
          · refine ⟨fun _ => ?_, fun h => (Bool.false_ne_true (Eq.trans (Eq.symm h) (by rfl))).elim⟩
            unfold Oper.wpV; (try simp only [applyP, List.nil_append, List.cons_append, List.foldl_cons, List.foldl_nil, Act.put, List.setIfInBounds_toArray, List.set_cons_zero, List.set_cons_succ]); go_simp
            (try simp only [World.size_drew])
            generalize hv13 : World.alloc _ _ = v13
            have hc13 : v13.heap[v9.heap.size]? = some (Obj.cells #[.slice (some ⟨v0.heap.size, 0, none⟩) (S s).size (S s).size] 89 (0, 0)) := by rw [← hv13]; exact heap_alloc_new _ _
            have hk13 : ∀ b, b < v9.heap.size → v13.heap[b]? = v9.heap[b]? := fun b hb => by rw [← hv13]; exact heap_alloc_old _ _ _ hb
            have hb13 : Below wB.heap.size wB v13 := by rw [← hv13]; exact hb9.alloc hb9.size _
            have hz13 := hb13.size
            have hl13m := (Array.getElem?_eq_some_iff.1 hc9).1
            have hd13m := (hk13 _ hl13m).trans hc9
            clear hv13
            refine ⟨hb13, ?_⟩
            unfold treeGp; rw [show freeT [(11, 10), (12, 11), (13, 2), (13, 12)] [2, 13] = [2] from by decide]; simp only [allL, List.getElem?_cons_zero, List.getElem?_cons_succ, List.erase_cons, beq_self_eq_true, if_true, Nat.reduceBEq, Bool.false_eq_true, if_false, and_true]
            refine ⟨fun _ => ?_, fun h => (Bool.false_ne_true (Eq.trans (Eq.symm h) (by rfl))).elim⟩
            simp only [applyP, List.nil_append, List.cons_append, List.foldl_cons, List.foldl_nil, Act.put, List.setIfInBounds_toArray, List.set_cons_zero, List.set_cons_succ]
            obtain ⟨hi, hz0, hz1', hz2'⟩ := unhide INT
            refine wpV_append (.const (.slice none 0 0)) (.tmp 40) _ rfl wB.heap.size 89 i0 (.slice none 0 0) 1 24 Try.underlying47 hi hz0 hz1' hz2' rfl (by decide) _ _ _ rfl (World.ownsRow_nil _ _ _ _) ⟨ρ.fb, 0, none⟩ G.n ρ.fc xs rfl (by rw [hxl, Nat.mul_one]) (unhide HFL _ hb13) (by rw [unhide HX]; simp [Value.oneCell']) (by simp only [maxLen]; omega) (by omega) hb13.size ?_
            intro y14 v14 how hgr
            have hb14 : Below wB.heap.size wB v14 := hb13.grown hgr hb13.size (fun r hr => by cases hr)
            have hz14 := hb14.size
            have HR14 := hide how
            have hl14m := (Array.getElem?_eq_some_iff.1 hd13m).1
            have hd14m := (hgr.block _ hl14m (fun e => by cases e)).trans hd13m
            have hl14q := (Array.getElem?_eq_some_iff.1 hc13).1
            have hd14q := (hgr.block _ hl14q (fun e => by cases e)).trans hc13
            clear how hgr hi hz0 hz1' hz2'
            refine ⟨hb14, ?_⟩
            unfold treeGp; rw [show freeT [(11, 10), (12, 11), (13, 2), (13, 12)] [13] = [13] from by decide]; simp only [allL, List.getElem?_cons_zero, List.getElem?_cons_succ, List.erase_cons, beq_self_eq_true, if_true, Nat.reduceBEq, Bool.false_eq_true, if_false, and_true]
            refine ⟨fun _ => ?_, fun h => (Bool.false_ne_true (Eq.trans (Eq.symm h) (by rfl))).elim⟩
            simp only [applyP, List.nil_append, List.cons_append, List.foldl_cons, List.foldl_nil, Act.put, List.setIfInBounds_toArray, List.set_cons_zero, List.set_cons_succ]
            obtain ⟨hi, hz0, hz1', hz2'⟩ := unhide INT
            refine wpV_append (.tmp 41) (.tmp 51) _ rfl wB.heap.size 89 i0 (.slice none 0 0) 1 24 Try.underlying47 hi hz0 hz1' hz2' rfl (by decide) _ _ _ rfl (unhide HR14) ⟨v9.heap.size, 0, none⟩ 1 1 [.slice (some ⟨v0.heap.size, 0, none⟩) (S s).size (S s).size] rfl rfl (one_cell hd14q) (by simp [Value.oneCell']) (by simp only [maxLen]; omega) (by omega) hb14.size ?_
            intro y15 v15 how hgr
            have hb15 : Below wB.heap.size wB v15 := hb14.grown hgr hb14.size (fun r hr => ((unhide HR14).lt r hr).1)
            have hz15 := hb15.size
            have hl15m := (Array.getElem?_eq_some_iff.1 hd14m).1
            have hd15m := (hgr.block _ hl15m (fun e => by
              obtain ⟨cur, hcur⟩ := own_type (unhide HR14) _ e.symm
              rw [hd14m] at hcur
              cases hcur)).trans hd14m
            clear hgr hi hz0 hz1' hz2'
            refine ⟨hb15, ?_⟩
            obtain ⟨g9, k9, rfl, -⟩ := own_form how (by omega)
            have hq := (hb15.block _ (by omega)).trans e0
            have q5 : v15.cell? ⟨w.heap.size, 5, none⟩ = some (.slice (some ⟨ρ.fb, 0, none⟩) G.n ρ.fc) := Lib.cell_of_heap hq 5
            have qf : v15.frozen? ⟨w.heap.size, 5, none⟩ = false := by simp [World.frozen?, hq]
            unfold treeGp; simp only [applyP, List.nil_append, List.cons_append, List.foldl_cons, List.foldl_nil, Act.put, List.setIfInBounds_toArray, List.set_cons_zero, List.set_cons_succ, List.drop_succ_cons, List.drop_zero]
            go_wp2_with fail
            go_meet
            exact unhide HEND _ _ _ _ hb15 (by omega) hd15m how _ rfl
    case rest =>
      obtain ⟨h', k', hm, HC2, i0, hh', hhm, HFD, HM0⟩ := hcut
      have hz4 := (unhide HC2).size
      clear c0 c1 c2 c3 c4 c5 o5 hmk hstr
      have i1 : wc.heap[w.heap.size + 1]? = _ := ((unhide HC2).block _ (by omega) (by omega)).trans e1
      have i2 : wc.heap[w.heap.size + 2]? = _ := ((unhide HC2).block _ (by omega) (by omega)).trans (((unhide HC).block _ (by omega) (by omega)).trans d2)
      have i3 : wc.heap[w.heap.size + 3]? = _ := ((unhide HC2).block _ (by omega) (by omega)).trans (((unhide HC).block _ (by omega) (by omega)).trans d3)
      have hnb : ∀ b, RBlk T S ρ G b → ¬ (fun j => j = w.heap.size) b := fun b hb9 e => by
        have e : b = w.heap.size := e
        have := (unhide HI).lt hT0 hn0 b hb9
        omega
      have hG := (((unhide HI).below hb).chg (unhide HC) hnb).chg (unhide HC2) hnb
      have hbc : Below w.heap.size w wc := (hb.trans (Chg.below (unhide HC) (fun i hi => by have hi : i = w.heap.size := hi; omega) (by omega))).trans (Chg.below (unhide HC2) (fun i hi => by have hi : i = w.heap.size := hi; omega) (by omega))
      have hSH : ∀ x, x < G.n + 1 → wc.cell? ⟨h, x, none⟩ = some (.int .i64 ((G.more s).sh (x + 1) : Nat)) := fun x hx => ((unhide HC2).cell (block_lt (unhide HSH x hx)) (fun e => by have e : h = w.heap.size := e; omega)).trans (unhide HSH x hx)
      have hM := hG.more_of (h := h) (k := k) (h' := h') (k' := k') (hm := hm) hSH (unhide HFD) (unhide HM0)
      have HS0 := fun W (hW : Below wc.heap.size wc W) => rSlot_any (sp := sp) (A := some ⟨g, oo, none⟩) (len := len) (cap := cap) (hM.below hW) hT t a (G.n + 1) ht la
      have HBK : Hid (∀ b, RBlk T S _ (G.more s) b → RBlk T S ρ G b ∨ w.heap.size + 4 ≤ b) := hide (more_blk (s := s) (h := h) (k := k) (h' := h') (k' := k') (hm := hm) (m := (S s).size) (by omega) (by omega) (by omega))
      unfold rV at HS0
      simp only [Gr.more_n] at HS0
      obtain ⟨c0, c1, c2, c3, c4, c5⟩ := cells6 i0
      have o1 : wc.cell? ⟨w.heap.size + 1, 1, none⟩ = some (.int .i64 (a : Int)) := Lib.cell_of_heap i1 1
      go_wp2_with fail
      refine (HS0 _ (Below.refl _ _)).mono ?_
      rintro e w6 ⟨ρ', rfl, h3, hb3, hr3⟩
      clear HS0 c0 c1 c2 c3 c4 c5 o1
      have hz6 := hb3.size
      have j2 : w6.heap[w.heap.size + 2]? = _ := (hb3.block _ (by omega)).trans i2
      have j3 : w6.heap[w.heap.size + 3]? = _ := (hb3.block _ (by omega)).trans i3
      obtain ⟨r0, r1, r2, r3, r4, r5⟩ := cells6 j2
      have fr : ∀ i, w6.frozen? ⟨w.heap.size + 2, i, none⟩ = false := fun i => by simp [World.frozen?, j2]
      obtain ⟨q0, q1, q2⟩ := cells3 j3
      have fq : ∀ i, w6.frozen? ⟨w.heap.size + 3, i, none⟩ = false := fun i => by simp [World.frozen?, j3]
      go_wp2
      refine bodyPost_ret (v := .tuple #[.agg #[.int .i64 (T : Int), .int .i64 sp, .slice (some ⟨g, oo, none⟩) len cap, .slice (some ⟨ρ'.rb, 0, none⟩) T ρ'.rc, .slice (some ⟨ρ'.sb, 0, none⟩) (G.n + 1) ρ'.sc, .slice (some ⟨ρ'.fb, 0, none⟩) (G.n + 1) ρ'.fc], .agg #[.int .i64 0, .bool false, .int .i64 0]]) (by simp only [results, Try.results40]; go_simp) rfl ?_
      refine ⟨_, rfl, rdone (h3) (hbc.trans (hb3.mono (by omega))) ((unhide HI).lt hT0 hn0) (fun b hb' => by
        rcases hr3 b hb' with h | h
        · exact unhide HBK b h
        · exact .inr (by omega)) (w3 := w6) ?_ (by omega)⟩
      (repeat (first | (with_reducible exact Chg.refl _ _) | (with_reducible refine Chg.drew ?_) | (refine Chg.set ?_ (.inr (by first | rfl | exact .inl rfl | exact .inr rfl)) _)))
end
end Go.Proofs.Ytbkaopeajjechaa

namespace Go.Proofs.Ytbkaopeajjechaa
set_option linter.unusedVariables false
set_option linter.unusedSimpArgs false
open Go.RowKit Go.Maps
section
variable {T : Nat} {sp : Int} {A : Option Addr} {len cap : Nat} {S : Nat → ByteArray} {w : World} {ρ : RLay} {G : Gr}

theorem rdone_to {G' G'' : Gr} {O O' : Value} {f : FuncId} {a : Array Value} (h1 : G' = G'') (h2 : O = O') (h : Calls Try.prog f a w (RDone T sp A len cap S w ρ G G' O)) : Calls Try.prog f a w (RDone T sp A len cap S w ρ G G'' O') := by
  subst h1 h2
  exact h

theorem rDo_any (H : IsR T S w ρ G) (HS : ShOk w A len S) (hok : G.Ok len S T) (hT0 : 1 ≤ T) (hT : T ≤ 8) (hn0 : 1 ≤ G.n) (hn : G.n ≤ 100000) (hlen : len ≤ 9223372036854775807) (t : Nat) (ht : t < T) (z : Nat → Int) :
    Calls Try.prog 40 #[rV T sp A len cap ρ G.n, .int .i64 (t : Int), opV z] w (RDone T sp A len cap S w ρ G (G.next len S t z) (G.out len S t z)) := by
  have hS8 : ∀ i, i < len → (S i).size ≤ 8 := fun i hi => (hok.tab.2.2 i hi).1
  have hSz : ∀ i, i < len → (S i).size ≤ 9223372036854775807 := fun i hi => by have := hS8 i hi; omega
  have hbad : ∀ E, G.err len S t z = E → E ≠ 0 → G.next len S t z = G ∧ G.out len S t z = .agg #[.int .i64 E, .bool false, .int .i64 0] := fun E he h0 => by
    unfold Gr.next Gr.out
    rw [he, if_neg h0, if_neg h0]
    exact ⟨rfl, rfl⟩
  have hgood : G.err len S t z = 0 → G.next len S t z = G.did t z ∧ G.out len S t z = .agg #[.int .i64 0, .bool (G.is t z), .int .i64 (G.val t z)] := fun he => by
    unfold Gr.next Gr.out
    rw [if_pos he, if_pos he]
    exact ⟨rfl, rfl⟩
  by_cases h0 : opE len S z = 0
  · obtain ⟨hk, hsl, h5⟩ := opE_zero h0
    obtain ⟨⟨s1, s2⟩, ⟨s3, s4⟩, s5, s6⟩ := hsl
    obtain ⟨a, ha⟩ : ∃ a : Nat, z 1 = (a : Int) := ⟨(z 1).toNat, by omega⟩
    obtain ⟨b, hb⟩ : ∃ b : Nat, z 2 = (b : Int) := ⟨(z 2).toNat, by omega⟩
    obtain ⟨c, hc⟩ : ∃ c : Nat, z 3 = (c : Int) := ⟨(z 3).toNat, by omega⟩
    have han : (z 1).toNat = a := by omega
    have hbn : (z 2).toNat = b := by omega
    have hcn : (z 3).toNat = c := by omega
    have la : a < 6 := by omega
    have lb : b < 6 := by omega
    have lc : c < 6 := by omega
    by_cases hf : z 0 = 1 ∨ 8 ≤ z 0
    · obtain ⟨e1, e2⟩ := hgood (err_slot h0 hf)
      rw [e1, e2]
      obtain h | h | h | h | h : z 0 = 1 ∨ z 0 = 8 ∨ z 0 = 9 ∨ z 0 = 10 ∨ z 0 = 11 := by omega
      · have hl := ofE_len (h5 h)
        obtain ⟨s, hs⟩ : ∃ s : Nat, z 5 = (s : Int) := ⟨(z 5).toNat, by omega⟩
        refine rdone_to ?_ ?_ (rDo_1 H HS hlen hSz hT0 hT hn0 hn t ht z h0 h a ha la s hs (by omega) (by have := hS8 s (by omega); omega))
        · unfold Gr.did
          rw [if_pos h, han, show (z 5).toNat = s by omega]
        · unfold Gr.is Gr.val
          simp [h]
      · by_cases hq : G.root t a = G.root t b
        · refine rdone_to ?_ ?_ (rDo_8y H HS hlen hSz hT0 hT hn0 hn t ht z h0 h a ha la b hb lb hq)
          · unfold Gr.did
            simp [h]
          · unfold Gr.is Gr.val
            simp [h, han, hbn, hq]
        · refine rdone_to ?_ ?_ (rDo_8n H HS hlen hSz hT0 hT hn0 hn t ht z h0 h a ha la b hb lb hq)
          · unfold Gr.did
            simp [h]
          · unfold Gr.is Gr.val
            simp [h, han, hbn, hq]
      · refine rdone_to ?_ ?_ (rDo_9 H HS hlen hSz hT0 hT hn0 hn t ht z h0 h a ha la b hb lb)
        · unfold Gr.did
          simp [h, han, hbn]
        · unfold Gr.is Gr.val
          simp [h]
      · refine rdone_to ?_ ?_ (rDo_10 H HS hlen hSz hT0 hT hn0 hn t ht z h0 h a ha la)
        · unfold Gr.did
          simp [h, han]
        · unfold Gr.is Gr.val
          simp [h]
      · refine rdone_to ?_ ?_ (rDo_11 H HS hlen hSz hT0 hT hn0 hn t ht z h0 h)
        · unfold Gr.did
          simp [h]
        · unfold Gr.is Gr.val
          simp [h]
    · have heo := Gr.err_obj (G := G) (t := t) h0 (by omega) (by omega)
      rw [han] at heo
      by_cases hr : G.root t a = 0
      · rw [if_pos hr] at heo
        obtain ⟨e1, e2⟩ := hbad 183 heo (by omega)
        rw [e1, e2]
        exact rDo_null H HS hlen hSz hT0 hT hn0 hn t ht z h0 (z 0) rfl (by omega) (by omega) (by omega) (by omega) (by omega) a ha la hr
      · rw [if_neg hr] at heo
        obtain ⟨y, hy⟩ : ∃ y, G.root t a = y + 1 := ⟨G.root t a - 1, by omega⟩
        have hyn : y < G.n := by have := hok.root t a ht la; omega
        rw [hy] at heo
        by_cases hi : isE len S (G.sh (y + 1)) (z 4) (fldK (z 0)) = 0
        · rw [hi] at heo
          obtain ⟨e1, e2⟩ := hgood heo
          rw [e1, e2]
          have hi2 := isE_ok hi
          obtain ⟨f, hff⟩ : ∃ f : Nat, z 4 = (f : Int) := ⟨(z 4).toNat, by omega⟩
          have hfn : (z 4).toNat = f := by omega
          have hsz := hi2.2.1
          have hkd := hi2.2.2
          rw [Int.toNat_natCast] at hsz hkd
          have lf : f < (S (G.sh (y + 1))).size := by omega
          have hm8 := hS8 (G.sh (y + 1)) (hok.sh _ (by omega) (by omega))
          rw [hfn] at hkd
          have hobj : G.obj t z = y + 1 := by unfold Gr.obj; rw [han, hy]
          have hgot : G.got t z = G.fl (y + 1) f := by unfold Gr.got; rw [hobj, hfn]
          obtain h | h | h | h | h | h : z 0 = 2 ∨ z 0 = 3 ∨ z 0 = 4 ∨ z 0 = 5 ∨ z 0 = 6 ∨ z 0 = 7 := by omega
          · have hk0 : kd (S (G.sh (y + 1))) f = 0 := by rw [hkd, h]; rfl
            have hp := hok.ptr (y + 1) f (by omega) (by omega) lf hk0
            obtain ⟨v, hv⟩ : ∃ v : Nat, G.fl (y + 1) f = (v : Int) := ⟨(G.fl (y + 1) f).toNat, by omega⟩
            by_cases hv0 : v = 0
            · subst hv0
              refine rdone_to ?_ ?_ (rDo_2n H HS hlen hSz hT0 hT hn0 hn t ht z h0 h a ha la b hb lb f hff (G.root t a) y rfl hy hyn lf (by omega) hi hv)
              · unfold Gr.did
                simp [h, hgot, hbn, hv]
              · unfold Gr.is Gr.val
                simp [h, hgot, hv]
            · refine rdone_to ?_ ?_ (rDo_2y H HS hlen hSz hT0 hT hn0 hn t ht z h0 h a ha la b hb lb f hff (G.root t a) y rfl hy hyn lf (by omega) hi v hv hv0)
              · unfold Gr.did
                simp [h, hgot, hbn, hv]
              · unfold Gr.is Gr.val
                simp [h, hgot, hv, hv0]
          · refine rdone_to ?_ ?_ (rDo_3 H HS hlen hSz hT0 hT hn0 hn t ht z h0 h a ha la b hb lb f hff (G.root t a) y rfl hy hyn lf (by omega) hi _ rfl)
            · unfold Gr.did
              simp [h, hobj, hfn, hbn]
            · unfold Gr.is Gr.val
              simp [h]
          · by_cases hq : G.fl (y + 1) f = (G.root t b : Int)
            · refine rdone_to ?_ ?_ (rDo_4y H HS hlen hSz hT0 hT hn0 hn t ht z h0 h a ha la b hb lb c hc lc f hff (G.root t a) y rfl hy hyn lf (by omega) hi hq)
              · unfold Gr.did
                simp [h, hgot, hobj, hfn, hbn, hcn, hq]
              · unfold Gr.is Gr.val
                simp [h, hgot, hbn, hq]
            · refine rdone_to ?_ ?_ (rDo_4n H HS hlen hSz hT0 hT hn0 hn t ht z h0 h a ha la b hb lb c hc lc f hff (G.root t a) y rfl hy hyn lf (by omega) hi _ rfl hq)
              · unfold Gr.did
                simp [h, hgot, hbn, hq]
              · unfold Gr.is Gr.val
                simp [h, hgot, hbn, hq]
          · refine rdone_to ?_ ?_ (rDo_5 H HS hlen hSz hT0 hT hn0 hn t ht z h0 h a ha la f hff (G.root t a) y rfl hy hyn lf (by omega) hi _ rfl)
            · unfold Gr.did
              simp [h]
            · unfold Gr.is Gr.val
              simp [h, hgot]
          · refine rdone_to ?_ ?_ (rDo_6 H HS hlen hSz hT0 hT hn0 hn t ht z h0 h a ha la f hff (G.root t a) y rfl hy hyn lf (by omega) hi _ rfl)
            · unfold Gr.did
              simp [h, hobj, hfn]
            · unfold Gr.is Gr.val
              simp [h]
          · by_cases hq : G.fl (y + 1) f = z 6
            · refine rdone_to ?_ ?_ (rDo_7y H HS hlen hSz hT0 hT hn0 hn t ht z h0 h a ha la f hff (G.root t a) y rfl hy hyn lf (by omega) hi hq)
              · unfold Gr.did
                simp [h, hgot, hobj, hfn, hq]
              · unfold Gr.is Gr.val
                simp [h, hgot, hq]
            · refine rdone_to ?_ ?_ (rDo_7n H HS hlen hSz hT0 hT hn0 hn t ht z h0 h a ha la f hff (G.root t a) y rfl hy hyn lf (by omega) hi _ rfl hq)
              · unfold Gr.did
                simp [h, hgot, hq]
              · unfold Gr.is Gr.val
                simp [h, hgot, hq]
        · obtain ⟨e1, e2⟩ := hbad _ heo hi
          rw [e1, e2]
          exact rDo_is H HS hlen hSz hT0 hT hn0 hn t ht z h0 (z 0) rfl (by omega) (by omega) (by omega) (by omega) (by omega) a ha la (G.root t a) y rfl hy hyn _ hi rfl
  · have he : G.err len S t z = opE len S z := by unfold Gr.err; rw [if_pos h0]
    obtain ⟨e1, e2⟩ := hbad _ he h0
    rw [e1, e2]
    exact rDo_no H HS hlen hSz hT0 hT hn0 hn t ht z _ rfl h0
end
end Go.Proofs.Ytbkaopeajjechaa
