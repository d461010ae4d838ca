/- The reference of layer 9: Do (what is refused, and slots). The reference of layer 9: Do (fields). The reference of layer 9: Do (pointer fields). -/
import Derived.Test.YtbkaopeajjechaaGuF
import Derived.Test.YtbkaopeajjechaaHvA
namespace Go.Proofs.Ytbkaopeajjechaa
set_option linter.unusedVariables false
set_option linter.unusedSimpArgs false
open Go.RowKit Go.Maps
section
variable {T : Nat} {sp : Int} {A : Option Addr} {len cap : Nat} {S : Nat → ByteArray} {w : World} {ρ : RLay} {G : Gr}

theorem chd1 {n b o : Nat} {v : Value} {W : World} (hz : b ≠ n) (h : W.cell? ⟨b, o, none⟩ = some v) (s : Chd (fun c => c = n) W) : s.val.cell? ⟨b, o, none⟩ = some v := Chd.cell (block_lt h) hz h s

/-- What Do answers: the graph behind it, and the answer. -/
def RDone (T : Nat) (sp : Int) (A : Option Addr) (len cap : Nat) (S : Nat → ByteArray) (w : World) (ρ : RLay) (G G' : Gr) (O : Value) : Ending → World → Prop := fun e w' => ∃ ρ', e = .returned (.tuple #[rV T sp A len cap ρ' G'.n, O]) ∧ IsR T S w' ρ' G' ∧ Below w.heap.size w w' ∧ ∀ b, RBlk T S ρ' G' b → RBlk T S ρ G b ∨ w.heap.size ≤ b

theorem rdone {w3 W : World} {ρ' : RLay} {G' : Gr} (h : IsR T S w3 ρ' G') (hb : Below w.heap.size w w3) (hlt : ∀ b, RBlk T S ρ G b → b < w.heap.size) (hr : ∀ b, RBlk T S ρ' G' b → RBlk T S ρ G b ∨ w.heap.size + 4 ≤ b) (hc : Chg (fun j => j = w.heap.size + 2 ∨ j = w.heap.size + 3) w3 W) (hz : w.heap.size + 4 ≤ w3.heap.size) :
    IsR T S W ρ' G' ∧ Below w.heap.size w W ∧ ∀ b, RBlk T S ρ' G' b → RBlk T S ρ G b ∨ w.heap.size ≤ b :=
  ⟨h.chg hc (fun b hb' e => by
    rcases hr b hb' with h1 | h1
    · have := hlt b h1
      rcases e with e | e <;> omega
    · rcases e with e | e <;> omega), hb.trans (Chg.below hc (fun i hi => by rcases hi with rfl | rfl <;> omega) (by omega)), fun b hb' => (hr b hb').imp id (fun h => by omega)⟩

set_option maxRecDepth 100000 in
set_option maxHeartbeats 4000000 in
theorem rDo_no (H : IsR T S w ρ G) (HS : ShOk w A len S) (hlen : len ≤ 9223372036854775807) (hSz : ∀ i, i < len → (S i).size ≤ 9223372036854775807) (hT0 : 1 ≤ T) (hT : T ≤ 8) (hn0 : 1 ≤ G.n) (hn : G.n ≤ 100000) (t : Nat) (ht : t < T) (z : Nat → Int) (E : Int) (h0 : opE len S z = E) (hE : ¬ E = 0) :
    Calls Try.prog 40 #[rV T sp A len cap ρ G.n, .int .i64 (t : Int), opV z] w (RDone T sp A len cap S w ρ G (G) (.agg #[.int .i64 E, .bool false, .int .i64 0])) := by
  have HI := hide H
  have CO := hide (fun W (hW : Below w.heap.size w W) => refChk_any A len cap S hlen hSz z W (HS.keep hW))
  rw [h0] at CO
  unfold rV
  clear H h0 
  go_enter Try.func40, Try.ntmps40
  go_upto_region 1 with fail
  refine wp_gen ?_
  intro w1 hw1
  obtain ⟨hB1, hz1, a0, a1, a2, a3⟩ := alloc4 hw1
  clear hw1
  obtain ⟨-, -, c2, -, -, -⟩ := cells6 a0
  obtain ⟨o0, o1, o2, o3, o4, o5, o6, o7⟩ := cells8 a1
  go_wp2_with fail
  refine (unhide CO _ hB1).mono ?_
  rintro e w2 ⟨rfl, hb2⟩
  clear c2 o0 o1 o2 o3 o4 o5 o6 o7 CO
  have hz2 := hb2.size
  have d0 : w2.heap[w.heap.size]? = _ := (hb2.block _ (by omega)).trans a0
  have d1 : w2.heap[w.heap.size + 1]? = _ := (hb2.block _ (by omega)).trans a1
  have d2 : w2.heap[w.heap.size + 2]? = _ := (hb2.block _ (by omega)).trans a2
  have d3 : w2.heap[w.heap.size + 3]? = _ := (hb2.block _ (by omega)).trans a3
  have hb : Below w.heap.size w w2 := hB1.trans (hb2.mono (by omega))
  clear a0 a1 a2 a3 hb2 hB1
  obtain ⟨c0, c1, c2, c3, c4, c5⟩ := cells6 d0
  obtain ⟨r0, r1, r2, r3, r4, r5⟩ := cells6 d2
  have fr := frz d2
  obtain ⟨q0, q1, q2⟩ := cells3 d3
  have fq := frz d3
  go_wp2
  refine bodyPost_ret (v := .tuple #[.agg #[.int .i64 (T : Int), .int .i64 sp, .slice A len cap, .slice (some ⟨ρ.rb, 0, none⟩) T ρ.rc, .slice (some ⟨ρ.sb, 0, none⟩) G.n ρ.sc, .slice (some ⟨ρ.fb, 0, none⟩) G.n ρ.fc], .agg #[.int .i64 E, .bool false, .int .i64 0]]) (by simp only [results, Try.results40]; go_simp) rfl ?_
  refine ⟨_, rfl, rdone ((unhide HI).below hb) (hb) ((unhide HI).lt hT0 hn0) (fun b hb => .inl hb) (w3 := w2) ?_ (by omega)⟩
  (repeat (first | (with_reducible exact Chg.refl _ _) | (with_reducible refine Chg.drew ?_) | (refine Chg.set ?_ (.inr (by first | rfl | exact .inl rfl | exact .inr rfl)) _)))

set_option maxRecDepth 100000 in
set_option maxHeartbeats 4000000 in
theorem rDo_11 (H : IsR T S w ρ G) (HS : ShOk w A len S) (hlen : len ≤ 9223372036854775807) (hSz : ∀ i, i < len → (S i).size ≤ 9223372036854775807) (hT0 : 1 ≤ T) (hT : T ≤ 8) (hn0 : 1 ≤ G.n) (hn : G.n ≤ 100000) (t : Nat) (ht : t < T) (z : Nat → Int) (h0 : opE len S z = 0) (hz : z 0 = 11) :
    Calls Try.prog 40 #[rV T sp A len cap ρ G.n, .int .i64 (t : Int), opV z] w (RDone T sp A len cap S w ρ G (G) (.agg #[.int .i64 0, .bool false, .int .i64 0])) := by
  have HI := hide H
  have CO := hide (fun W (hW : Below w.heap.size w W) => refChk_any A len cap S hlen hSz z W (HS.keep hW))
  rw [h0] at CO
  simp only [opV, hz] at CO
  unfold rV
  simp only [opV, hz]
  clear H h0 hz
  go_enter Try.func40, Try.ntmps40
  go_upto_region 1 with fail
  refine wp_gen ?_
  intro w1 hw1
  obtain ⟨hB1, hz1, a0, a1, a2, a3⟩ := alloc4 hw1
  clear hw1
  obtain ⟨-, -, c2, -, -, -⟩ := cells6 a0
  obtain ⟨o0, o1, o2, o3, o4, o5, o6, o7⟩ := cells8 a1
  go_wp2_with fail
  refine (unhide CO _ hB1).mono ?_
  rintro e w2 ⟨rfl, hb2⟩
  clear c2 o0 o1 o2 o3 o4 o5 o6 o7 CO
  have hz2 := hb2.size
  have d0 : w2.heap[w.heap.size]? = _ := (hb2.block _ (by omega)).trans a0
  have d1 : w2.heap[w.heap.size + 1]? = _ := (hb2.block _ (by omega)).trans a1
  have d2 : w2.heap[w.heap.size + 2]? = _ := (hb2.block _ (by omega)).trans a2
  have d3 : w2.heap[w.heap.size + 3]? = _ := (hb2.block _ (by omega)).trans a3
  have hb : Below w.heap.size w w2 := hB1.trans (hb2.mono (by omega))
  clear a0 a1 a2 a3 hb2 hB1
  obtain ⟨c0, c1, c2, c3, c4, c5⟩ := cells6 d0
  obtain ⟨o0, -, -, -, -, -, -, -⟩ := cells8 d1
  obtain ⟨r0, r1, r2, r3, r4, r5⟩ := cells6 d2
  have fr := frz d2
  obtain ⟨q0, q1, q2⟩ := cells3 d3
  have fq := frz d3
  have Brt := (unhide HI).rows t ht
  have rt := ((unhide HI).below hb).rows t ht
  have t0 : (0 : Int) ≤ (t : Int) := by omega
  have t1 : (t : Int) < (T : Int) := by omega
  go_wp2
  refine bodyPost_ret (v := .tuple #[.agg #[.int .i64 (T : Int), .int .i64 sp, .slice A len cap, .slice (some ⟨ρ.rb, 0, none⟩) T ρ.rc, .slice (some ⟨ρ.sb, 0, none⟩) G.n ρ.sc, .slice (some ⟨ρ.fb, 0, none⟩) G.n ρ.fc], .agg #[.int .i64 0, .bool false, .int .i64 0]]) (by simp only [results, Try.results40]; go_simp) rfl ?_
  refine ⟨_, rfl, rdone ((unhide HI).below hb) (hb) ((unhide HI).lt hT0 hn0) (fun b hb => .inl hb) (w3 := w2) ?_ (by omega)⟩
  (repeat (first | (with_reducible exact Chg.refl _ _) | (with_reducible refine Chg.drew ?_) | (refine Chg.set ?_ (.inr (by first | rfl | exact .inl rfl | exact .inr rfl)) _)))

set_option maxRecDepth 100000 in
set_option maxHeartbeats 4000000 in
theorem rDo_8y (H : IsR T S w ρ G) (HS : ShOk w A len S) (hlen : len ≤ 9223372036854775807) (hSz : ∀ i, i < len → (S i).size ≤ 9223372036854775807) (hT0 : 1 ≤ T) (hT : T ≤ 8) (hn0 : 1 ≤ G.n) (hn : G.n ≤ 100000) (t : Nat) (ht : t < T) (z : Nat → Int) (h0 : opE len S z = 0) (hz : z 0 = 8) (a : Nat) (ha : z 1 = (a : Int)) (la : a < 6) (b : Nat) (hb : z 2 = (b : Int)) (lb : b < 6) (hq : G.root t a = G.root t b) :
    Calls Try.prog 40 #[rV T sp A len cap ρ G.n, .int .i64 (t : Int), opV z] w (RDone T sp A len cap S w ρ G (G) (.agg #[.int .i64 0, .bool true, .int .i64 0])) := by
  have HI := hide H
  have CO := hide (fun W (hW : Below w.heap.size w W) => refChk_any A len cap S hlen hSz z W (HS.keep hW))
  rw [h0] at CO
  simp only [opV, hz, ha, hb] at CO
  unfold rV
  simp only [opV, hz, ha, hb]
  clear H h0 hz ha hb
  go_enter Try.func40, Try.ntmps40
  go_upto_region 1 with fail
  refine wp_gen ?_
  intro w1 hw1
  obtain ⟨hB1, hz1, a0, a1, a2, a3⟩ := alloc4 hw1
  clear hw1
  obtain ⟨-, -, c2, -, -, -⟩ := cells6 a0
  obtain ⟨o0, o1, o2, o3, o4, o5, o6, o7⟩ := cells8 a1
  go_wp2_with fail
  refine (unhide CO _ hB1).mono ?_
  rintro e w2 ⟨rfl, hb2⟩
  clear c2 o0 o1 o2 o3 o4 o5 o6 o7 CO
  have hz2 := hb2.size
  have d0 : w2.heap[w.heap.size]? = _ := (hb2.block _ (by omega)).trans a0
  have d1 : w2.heap[w.heap.size + 1]? = _ := (hb2.block _ (by omega)).trans a1
  have d2 : w2.heap[w.heap.size + 2]? = _ := (hb2.block _ (by omega)).trans a2
  have d3 : w2.heap[w.heap.size + 3]? = _ := (hb2.block _ (by omega)).trans a3
  have hb : Below w.heap.size w w2 := hB1.trans (hb2.mono (by omega))
  clear a0 a1 a2 a3 hb2 hB1
  obtain ⟨c0, c1, c2, c3, c4, c5⟩ := cells6 d0
  obtain ⟨o0, o1, o2, -, -, -, -, -⟩ := cells8 d1
  obtain ⟨r0, r1, r2, r3, r4, r5⟩ := cells6 d2
  have fr := frz d2
  obtain ⟨q0, q1, q2⟩ := cells3 d3
  have fq := frz d3
  have Brt := (unhide HI).rows t ht
  have rt := ((unhide HI).below hb).rows t ht
  have t0 : (0 : Int) ≤ (t : Int) := by omega
  have t1 : (t : Int) < (T : Int) := by omega
  have Bsa := (unhide HI).root t a ht la
  have sa := ((unhide HI).below hb).root t a ht la
  have ga0 : (0 : Int) ≤ (a : Int) := by omega
  have ga1 : (a : Int) < 6 := by omega
  have Bsb := (unhide HI).root t b ht lb
  have sb := ((unhide HI).below hb).root t b ht lb
  have gb0 : (0 : Int) ≤ (b : Int) := by omega
  have gb1 : (b : Int) < 6 := by omega
  generalize G.root t a = ra at *
  generalize G.root t b = rb at *
  have he : (ra : Int) = (rb : Int) := by omega
  go_upto_region 11 with fail
  have uc0 := chd1 (n := w.heap.size + 2) (by omega) c0
  have uc1 := chd1 (n := w.heap.size + 2) (by omega) c1
  have uc2 := chd1 (n := w.heap.size + 2) (by omega) c2
  have uc3 := chd1 (n := w.heap.size + 2) (by omega) c3
  have uc4 := chd1 (n := w.heap.size + 2) (by omega) c4
  have uc5 := chd1 (n := w.heap.size + 2) (by omega) c5
  have uo1 := chd1 (n := w.heap.size + 2) (by omega) o1
  have uo2 := chd1 (n := w.heap.size + 2) (by omega) o2
  have usa := chd1 (n := w.heap.size + 2) (Nat.ne_of_lt (Nat.lt_of_lt_of_le (block_lt Bsa) (by omega))) sa
  have usb := chd1 (n := w.heap.size + 2) (Nat.ne_of_lt (Nat.lt_of_lt_of_le (block_lt Bsb) (by omega))) sb
  refine wp_region_side_chd [0, 0, 0, 0, 0, 0, 0, 0, 0, 0, 0, 0, 0, 1, 2] 14 (fun c => c = w.heap.size + 2) w2 (by kernel_rfl) (by kernel_rfl) ((Chg.refl _ _).drew) ?_; simp only [kblk, List.map_cons, List.map_nil, Nat.reduceBNe, diesOps_f, diesOps_t, diesOps_nil, bne_self_eq_false]; (repeat (first | go_big_quiet_skip | (go_big_quiet_want; (first | ((fail); go_big_quiet_on; simp only [Act.put, List.setIfInBounds_toArray, List.set_cons_zero, List.set_cons_succ]) | (go_big_quiet_op; (first | go_big_quiet_on | go_big_quiet_call ((fail)))))))); refine wpQuiet_nil ?_; rw [show sideIdx [0, 0, 0, 0, 0, 0, 0, 0, 0, 0, 0, 0, 0, 1, 2] 14 = [13] from by decide]; simp only [List.filterMap_cons, List.filterMap_nil, List.getElem?_cons_zero, List.getElem?_cons_succ]; (try simp only [applyP, List.nil_append, List.cons_append, List.foldl_cons, List.foldl_nil, Act.put, List.setIfInBounds_toArray, List.set_cons_zero, List.set_cons_succ]); unfold sideWp Oper.wpV; (try simp only [applyP, List.nil_append, List.cons_append, List.foldl_cons, List.foldl_nil, Act.put, List.setIfInBounds_toArray, List.set_cons_zero, List.set_cons_succ]); go_simp
  refine ⟨by (repeat (first | (with_reducible exact Chg.refl _ _) | (with_reducible refine Chg.drew ?_) | (refine Chg.set ?_ (.inr (by first | rfl | exact .inl rfl | exact .inr rfl)) _))), ?_⟩
  unfold sideWp; simp only [applyP, List.nil_append, List.cons_append, List.foldl_cons, List.foldl_nil, Act.put, List.setIfInBounds_toArray, List.set_cons_zero, List.set_cons_succ, List.drop_succ_cons, List.drop_zero]
  go_wp2
  refine bodyPost_ret (v := .tuple #[.agg #[.int .i64 (T : Int), .int .i64 sp, .slice A len cap, .slice (some ⟨ρ.rb, 0, none⟩) T ρ.rc, .slice (some ⟨ρ.sb, 0, none⟩) G.n ρ.sc, .slice (some ⟨ρ.fb, 0, none⟩) G.n ρ.fc], .agg #[.int .i64 0, .bool true, .int .i64 0]]) (by simp only [results, Try.results40]; go_simp) rfl ?_
  refine ⟨_, rfl, rdone ((unhide HI).below hb) (hb) ((unhide HI).lt hT0 hn0) (fun b hb => .inl hb) (w3 := w2) ?_ (by omega)⟩
  (repeat (first | (with_reducible exact Chg.refl _ _) | (with_reducible refine Chg.drew ?_) | (refine Chg.set ?_ (.inr (by first | rfl | exact .inl rfl | exact .inr rfl)) _)))

set_option maxRecDepth 100000 in
set_option maxHeartbeats 4000000 in
theorem rDo_8n (H : IsR T S w ρ G) (HS : ShOk w A len S) (hlen : len ≤ 9223372036854775807) (hSz : ∀ i, i < len → (S i).size ≤ 9223372036854775807) (hT0 : 1 ≤ T) (hT : T ≤ 8) (hn0 : 1 ≤ G.n) (hn : G.n ≤ 100000) (t : Nat) (ht : t < T) (z : Nat → Int) (h0 : opE len S z = 0) (hz : z 0 = 8) (a : Nat) (ha : z 1 = (a : Int)) (la : a < 6) (b : Nat) (hb : z 2 = (b : Int)) (lb : b < 6) (hq : ¬ G.root t a = G.root t b) :
    Calls Try.prog 40 #[rV T sp A len cap ρ G.n, .int .i64 (t : Int), opV z] w (RDone T sp A len cap S w ρ G (G) (.agg #[.int .i64 0, .bool false, .int .i64 0])) := by
  have HI := hide H
  have CO := hide (fun W (hW : Below w.heap.size w W) => refChk_any A len cap S hlen hSz z W (HS.keep hW))
  rw [h0] at CO
  simp only [opV, hz, ha, hb] at CO
  unfold rV
  simp only [opV, hz, ha, hb]
  clear H h0 hz ha hb
  go_enter Try.func40, Try.ntmps40
  go_upto_region 1 with fail
  refine wp_gen ?_
  intro w1 hw1
  obtain ⟨hB1, hz1, a0, a1, a2, a3⟩ := alloc4 hw1
  clear hw1
  obtain ⟨-, -, c2, -, -, -⟩ := cells6 a0
  obtain ⟨o0, o1, o2, o3, o4, o5, o6, o7⟩ := cells8 a1
  go_wp2_with fail
  refine (unhide CO _ hB1).mono ?_
  rintro e w2 ⟨rfl, hb2⟩
  clear c2 o0 o1 o2 o3 o4 o5 o6 o7 CO
  have hz2 := hb2.size
  have d0 : w2.heap[w.heap.size]? = _ := (hb2.block _ (by omega)).trans a0
  have d1 : w2.heap[w.heap.size + 1]? = _ := (hb2.block _ (by omega)).trans a1
  have d2 : w2.heap[w.heap.size + 2]? = _ := (hb2.block _ (by omega)).trans a2
  have d3 : w2.heap[w.heap.size + 3]? = _ := (hb2.block _ (by omega)).trans a3
  have hb : Below w.heap.size w w2 := hB1.trans (hb2.mono (by omega))
  clear a0 a1 a2 a3 hb2 hB1
  obtain ⟨c0, c1, c2, c3, c4, c5⟩ := cells6 d0
  obtain ⟨o0, o1, o2, -, -, -, -, -⟩ := cells8 d1
  obtain ⟨r0, r1, r2, r3, r4, r5⟩ := cells6 d2
  have fr := frz d2
  obtain ⟨q0, q1, q2⟩ := cells3 d3
  have fq := frz d3
  have Brt := (unhide HI).rows t ht
  have rt := ((unhide HI).below hb).rows t ht
  have t0 : (0 : Int) ≤ (t : Int) := by omega
  have t1 : (t : Int) < (T : Int) := by omega
  have Bsa := (unhide HI).root t a ht la
  have sa := ((unhide HI).below hb).root t a ht la
  have ga0 : (0 : Int) ≤ (a : Int) := by omega
  have ga1 : (a : Int) < 6 := by omega
  have Bsb := (unhide HI).root t b ht lb
  have sb := ((unhide HI).below hb).root t b ht lb
  have gb0 : (0 : Int) ≤ (b : Int) := by omega
  have gb1 : (b : Int) < 6 := by omega
  generalize G.root t a = ra at *
  generalize G.root t b = rb at *
  have he : ¬ (ra : Int) = (rb : Int) := by omega
  go_upto_region 11 with fail
  have uc0 := chd1 (n := w.heap.size + 2) (by omega) c0
  have uc1 := chd1 (n := w.heap.size + 2) (by omega) c1
  have uc2 := chd1 (n := w.heap.size + 2) (by omega) c2
  have uc3 := chd1 (n := w.heap.size + 2) (by omega) c3
  have uc4 := chd1 (n := w.heap.size + 2) (by omega) c4
  have uc5 := chd1 (n := w.heap.size + 2) (by omega) c5
  have uo1 := chd1 (n := w.heap.size + 2) (by omega) o1
  have uo2 := chd1 (n := w.heap.size + 2) (by omega) o2
  have usa := chd1 (n := w.heap.size + 2) (Nat.ne_of_lt (Nat.lt_of_lt_of_le (block_lt Bsa) (by omega))) sa
  have usb := chd1 (n := w.heap.size + 2) (Nat.ne_of_lt (Nat.lt_of_lt_of_le (block_lt Bsb) (by omega))) sb
  refine wp_region_side_chd [0, 0, 0, 0, 0, 0, 0, 0, 0, 0, 0, 0, 0, 1, 2] 14 (fun c => c = w.heap.size + 2) w2 (by kernel_rfl) (by kernel_rfl) ((Chg.refl _ _).drew) ?_; simp only [kblk, List.map_cons, List.map_nil, Nat.reduceBNe, diesOps_f, diesOps_t, diesOps_nil, bne_self_eq_false]; (repeat (first | go_big_quiet_skip | (go_big_quiet_want; (first | ((fail); go_big_quiet_on; simp only [Act.put, List.setIfInBounds_toArray, List.set_cons_zero, List.set_cons_succ]) | (go_big_quiet_op; (first | go_big_quiet_on | go_big_quiet_call ((fail)))))))); refine wpQuiet_nil ?_; rw [show sideIdx [0, 0, 0, 0, 0, 0, 0, 0, 0, 0, 0, 0, 0, 1, 2] 14 = [13] from by decide]; simp only [List.filterMap_cons, List.filterMap_nil, List.getElem?_cons_zero, List.getElem?_cons_succ]; (try simp only [applyP, List.nil_append, List.cons_append, List.foldl_cons, List.foldl_nil, Act.put, List.setIfInBounds_toArray, List.set_cons_zero, List.set_cons_succ]); unfold sideWp Oper.wpV; (try simp only [applyP, List.nil_append, List.cons_append, List.foldl_cons, List.foldl_nil, Act.put, List.setIfInBounds_toArray, List.set_cons_zero, List.set_cons_succ]); go_simp
  refine ⟨by (repeat (first | (with_reducible exact Chg.refl _ _) | (with_reducible refine Chg.drew ?_) | (refine Chg.set ?_ (.inr (by first | rfl | exact .inl rfl | exact .inr rfl)) _))), ?_⟩
  unfold sideWp; simp only [applyP, List.nil_append, List.cons_append, List.foldl_cons, List.foldl_nil, Act.put, List.setIfInBounds_toArray, List.set_cons_zero, List.set_cons_succ, List.drop_succ_cons, List.drop_zero]
  go_wp2
  refine bodyPost_ret (v := .tuple #[.agg #[.int .i64 (T : Int), .int .i64 sp, .slice A len cap, .slice (some ⟨ρ.rb, 0, none⟩) T ρ.rc, .slice (some ⟨ρ.sb, 0, none⟩) G.n ρ.sc, .slice (some ⟨ρ.fb, 0, none⟩) G.n ρ.fc], .agg #[.int .i64 0, .bool false, .int .i64 0]]) (by simp only [results, Try.results40]; go_simp) rfl ?_
  refine ⟨_, rfl, rdone ((unhide HI).below hb) (hb) ((unhide HI).lt hT0 hn0) (fun b hb => .inl hb) (w3 := w2) ?_ (by omega)⟩
  (repeat (first | (with_reducible exact Chg.refl _ _) | (with_reducible refine Chg.drew ?_) | (refine Chg.set ?_ (.inr (by first | rfl | exact .inl rfl | exact .inr rfl)) _)))

set_option maxRecDepth 100000 in
set_option maxHeartbeats 4000000 in
theorem rDo_10 (H : IsR T S w ρ G) (HS : ShOk w A len S) (hlen : len ≤ 9223372036854775807) (hSz : ∀ i, i < len → (S i).size ≤ 9223372036854775807) (hT0 : 1 ≤ T) (hT : T ≤ 8) (hn0 : 1 ≤ G.n) (hn : G.n ≤ 100000) (t : Nat) (ht : t < T) (z : Nat → Int) (h0 : opE len S z = 0) (hz : z 0 = 10) (a : Nat) (ha : z 1 = (a : Int)) (la : a < 6) :
    Calls Try.prog 40 #[rV T sp A len cap ρ G.n, .int .i64 (t : Int), opV z] w (RDone T sp A len cap S w ρ G (G.slot t a 0) (.agg #[.int .i64 0, .bool false, .int .i64 0])) := by
  have HI := hide H
  have CO := hide (fun W (hW : Below w.heap.size w W) => refChk_any A len cap S hlen hSz z W (HS.keep hW))
  rw [h0] at CO
  simp only [opV, hz, ha] at CO
  unfold rV
  simp only [opV, hz, ha]
  clear H h0 hz ha
  go_enter Try.func40, Try.ntmps40
  go_upto_region 1 with fail
  refine wp_gen ?_
  intro w1 hw1
  obtain ⟨hB1, hz1, a0, a1, a2, a3⟩ := alloc4 hw1
  clear hw1
  obtain ⟨-, -, c2, -, -, -⟩ := cells6 a0
  obtain ⟨o0, o1, o2, o3, o4, o5, o6, o7⟩ := cells8 a1
  go_wp2_with fail
  refine (unhide CO _ hB1).mono ?_
  rintro e w2 ⟨rfl, hb2⟩
  clear c2 o0 o1 o2 o3 o4 o5 o6 o7 CO
  have hz2 := hb2.size
  have d0 : w2.heap[w.heap.size]? = _ := (hb2.block _ (by omega)).trans a0
  have d1 : w2.heap[w.heap.size + 1]? = _ := (hb2.block _ (by omega)).trans a1
  have d2 : w2.heap[w.heap.size + 2]? = _ := (hb2.block _ (by omega)).trans a2
  have d3 : w2.heap[w.heap.size + 3]? = _ := (hb2.block _ (by omega)).trans a3
  have hb : Below w.heap.size w w2 := hB1.trans (hb2.mono (by omega))
  clear a0 a1 a2 a3 hb2 hB1
  obtain ⟨c0, c1, c2, c3, c4, c5⟩ := cells6 d0
  obtain ⟨o0, o1, -, -, -, -, -, -⟩ := cells8 d1
  have Brt := (unhide HI).rows t ht
  have rt := ((unhide HI).below hb).rows t ht
  have t0 : (0 : Int) ≤ (t : Int) := by omega
  have t1 : (t : Int) < (T : Int) := by omega
  have Bsa := (unhide HI).root t a ht la
  have sa := ((unhide HI).below hb).root t a ht la
  have ga0 : (0 : Int) ≤ (a : Int) := by omega
  have ga1 : (a : Int) < 6 := by omega
  have HS0 := rSlot_any (sp := sp) (A := A) (len := len) (cap := cap) ((unhide HI).below hb) hT t a 0 ht la
  unfold rV at HS0
  rw [show ((0 : Nat) : Int) = 0 from rfl] at HS0
  go_wp2_with fail
  refine HS0.mono ?_
  rintro e w3 ⟨ρ', rfl, h3, hb3, hr3⟩
  clear HS0 rt
  clear c0 c1 c2 c3 c4 c5 o0 o1
  have hz3 := hb3.size
  have e0 : w3.heap[w.heap.size]? = _ := (hb3.block _ (by omega)).trans d0
  have e1 : w3.heap[w.heap.size + 1]? = _ := (hb3.block _ (by omega)).trans d1
  have e2 : w3.heap[w.heap.size + 2]? = _ := (hb3.block _ (by omega)).trans d2
  have e3 : w3.heap[w.heap.size + 3]? = _ := (hb3.block _ (by omega)).trans d3
  obtain ⟨r0, r1, r2, r3, r4, r5⟩ := cells6 e2
  have fr := frz e2
  obtain ⟨q0, q1, q2⟩ := cells3 e3
  have fq := frz e3
  go_wp2
  refine bodyPost_ret (v := .tuple #[.agg #[.int .i64 (T : Int), .int .i64 sp, .slice A len cap, .slice (some ⟨ρ'.rb, 0, none⟩) T ρ'.rc, .slice (some ⟨ρ'.sb, 0, none⟩) G.n ρ'.sc, .slice (some ⟨ρ'.fb, 0, none⟩) G.n ρ'.fc], .agg #[.int .i64 0, .bool false, .int .i64 0]]) (by simp only [results, Try.results40]; go_simp) rfl ?_
  refine ⟨_, rfl, rdone (h3) (hb.trans (hb3.mono (by omega))) ((unhide HI).lt hT0 hn0) (fun b hb' => by
    rcases hr3 b hb' with h | h
    · exact .inl h
    · exact .inr (by omega)) (w3 := w3) ?_ (by omega)⟩
  (repeat (first | (with_reducible exact Chg.refl _ _) | (with_reducible refine Chg.drew ?_) | (refine Chg.set ?_ (.inr (by first | rfl | exact .inl rfl | exact .inr rfl)) _)))

set_option maxRecDepth 100000 in
set_option maxHeartbeats 4000000 in
theorem rDo_9 (H : IsR T S w ρ G) (HS : ShOk w A len S) (hlen : len ≤ 9223372036854775807) (hSz : ∀ i, i < len → (S i).size ≤ 9223372036854775807) (hT0 : 1 ≤ T) (hT : T ≤ 8) (hn0 : 1 ≤ G.n) (hn : G.n ≤ 100000) (t : Nat) (ht : t < T) (z : Nat → Int) (h0 : opE len S z = 0) (hz : z 0 = 9) (a : Nat) (ha : z 1 = (a : Int)) (la : a < 6) (b : Nat) (hb : z 2 = (b : Int)) (lb : b < 6) :
    Calls Try.prog 40 #[rV T sp A len cap ρ G.n, .int .i64 (t : Int), opV z] w (RDone T sp A len cap S w ρ G (G.slot t a (G.root t b)) (.agg #[.int .i64 0, .bool false, .int .i64 0])) := by
  have HI := hide H
  have CO := hide (fun W (hW : Below w.heap.size w W) => refChk_any A len cap S hlen hSz z W (HS.keep hW))
  rw [h0] at CO
  simp only [opV, hz, ha, hb] at CO
  unfold rV
  simp only [opV, hz, ha, hb]
  clear H h0 hz ha hb
  go_enter Try.func40, Try.ntmps40
  go_upto_region 1 with fail
  refine wp_gen ?_
  intro w1 hw1
  obtain ⟨hB1, hz1, a0, a1, a2, a3⟩ := alloc4 hw1
  clear hw1
  obtain ⟨-, -, c2, -, -, -⟩ := cells6 a0
  obtain ⟨o0, o1, o2, o3, o4, o5, o6, o7⟩ := cells8 a1
  go_wp2_with fail
  refine (unhide CO _ hB1).mono ?_
  rintro e w2 ⟨rfl, hb2⟩
  clear c2 o0 o1 o2 o3 o4 o5 o6 o7 CO
  have hz2 := hb2.size
  have d0 : w2.heap[w.heap.size]? = _ := (hb2.block _ (by omega)).trans a0
  have d1 : w2.heap[w.heap.size + 1]? = _ := (hb2.block _ (by omega)).trans a1
  have d2 : w2.heap[w.heap.size + 2]? = _ := (hb2.block _ (by omega)).trans a2
  have d3 : w2.heap[w.heap.size + 3]? = _ := (hb2.block _ (by omega)).trans a3
  have hb : Below w.heap.size w w2 := hB1.trans (hb2.mono (by omega))
  clear a0 a1 a2 a3 hb2 hB1
  obtain ⟨c0, c1, c2, c3, c4, c5⟩ := cells6 d0
  obtain ⟨o0, o1, o2, -, -, -, -, -⟩ := cells8 d1
  obtain ⟨r0, r1, r2, r3, r4, r5⟩ := cells6 d2
  have fr := frz d2
  obtain ⟨q0, q1, q2⟩ := cells3 d3
  have fq := frz d3
  have Brt := (unhide HI).rows t ht
  have rt := ((unhide HI).below hb).rows t ht
  have t0 : (0 : Int) ≤ (t : Int) := by omega
  have t1 : (t : Int) < (T : Int) := by omega
  have Bsa := (unhide HI).root t a ht la
  have sa := ((unhide HI).below hb).root t a ht la
  have ga0 : (0 : Int) ≤ (a : Int) := by omega
  have ga1 : (a : Int) < 6 := by omega
  have Bsb := (unhide HI).root t b ht lb
  have sb := ((unhide HI).below hb).root t b ht lb
  have gb0 : (0 : Int) ≤ (b : Int) := by omega
  have gb1 : (b : Int) < 6 := by omega
  generalize G.root t b = rb at *
  have HS0 := fun W (hW : Below w2.heap.size w2 W) => rSlot_any (sp := sp) (A := A) (len := len) (cap := cap) ((unhide HI).below (hb.trans (hW.mono (by omega)))) hT t a rb ht la
  unfold rV at HS0
  go_upto_region 13 with fail
  have uc0 := chd1 (n := w.heap.size + 2) (by omega) c0
  have uc1 := chd1 (n := w.heap.size + 2) (by omega) c1
  have uc2 := chd1 (n := w.heap.size + 2) (by omega) c2
  have uc3 := chd1 (n := w.heap.size + 2) (by omega) c3
  have uc4 := chd1 (n := w.heap.size + 2) (by omega) c4
  have uc5 := chd1 (n := w.heap.size + 2) (by omega) c5
  have uo1 := chd1 (n := w.heap.size + 2) (by omega) o1
  have uo2 := chd1 (n := w.heap.size + 2) (by omega) o2
  have usb := chd1 (n := w.heap.size + 2) (Nat.ne_of_lt (Nat.lt_of_lt_of_le (block_lt Bsb) (by omega))) sb
  refine wp_region_side_chd [0, 0, 0, 0, 0, 0, 0, 0, 0, 1, 0, 1, 2] 12 (fun c => c = w.heap.size + 2) w2 (by kernel_rfl) (by kernel_rfl) ((Chg.refl _ _).drew) ?_; simp only [kblk, List.map_cons, List.map_nil, Nat.reduceBNe, diesOps_f, diesOps_t, diesOps_nil, bne_self_eq_false]; (repeat (first | go_big_quiet_skip | (go_big_quiet_want; (first | ((fail); go_big_quiet_on; simp only [Act.put, List.setIfInBounds_toArray, List.set_cons_zero, List.set_cons_succ]) | (go_big_quiet_op; (first | go_big_quiet_on | go_big_quiet_call ((fail)))))))); refine wpQuiet_nil ?_; rw [show sideIdx [0, 0, 0, 0, 0, 0, 0, 0, 0, 1, 0, 1, 2] 12 = [9, 11] from by decide]; simp only [List.filterMap_cons, List.filterMap_nil, List.getElem?_cons_zero, List.getElem?_cons_succ]; (try simp only [applyP, List.nil_append, List.cons_append, List.foldl_cons, List.foldl_nil, Act.put, List.setIfInBounds_toArray, List.set_cons_zero, List.set_cons_succ]); unfold sideWp Oper.wpV; (try simp only [applyP, List.nil_append, List.cons_append, List.foldl_cons, List.foldl_nil, Act.put, List.setIfInBounds_toArray, List.set_cons_zero, List.set_cons_succ]); go_simp
  refine (HS0 _ ((Below.refl _ _).drew)).mono ?_
  rintro e w3 ⟨ρ', rfl, h3, hb3, hr3⟩
  have hb3 : Below w2.heap.size w2 w3 := ((Below.refl _ w2).drew).trans (hb3.mono (Nat.le_refl _))
  have hr3 : ∀ b, RBlk T S ρ' _ b → RBlk T S ρ G b ∨ w2.heap.size ≤ b := hr3
  refine ⟨_, rfl, Chg.of hb3, ?_⟩
  clear HS0 rt sa sb Bsa Bsb usb
  clear c0 c1 c2 c3 c4 c5 o0 o1 o2 r0 r1 r2 r3 r4 r5 fr q0 q1 q2 fq
  have hz3 := hb3.size
  have e0 : w3.heap[w.heap.size]? = _ := (hb3.block _ (by omega)).trans d0
  have e1 : w3.heap[w.heap.size + 1]? = _ := (hb3.block _ (by omega)).trans d1
  have e2 : w3.heap[w.heap.size + 2]? = _ := (hb3.block _ (by omega)).trans d2
  have e3 : w3.heap[w.heap.size + 3]? = _ := (hb3.block _ (by omega)).trans d3
  obtain ⟨r0, r1, r2, r3, r4, r5⟩ := cells6 e2
  have fr := frz e2
  obtain ⟨q0, q1, q2⟩ := cells3 e3
  have fq := frz e3
  (try simp only [applyP, List.nil_append, List.cons_append, List.foldl_cons, List.foldl_nil, Act.put, List.setIfInBounds_toArray, List.set_cons_zero, List.set_cons_succ]); unfold sideWp Oper.wpV; (try simp only [applyP, List.nil_append, List.cons_append, List.foldl_cons, List.foldl_nil, Act.put, List.setIfInBounds_toArray, List.set_cons_zero, List.set_cons_succ]); go_simp
  refine ⟨(Chg.of hb3).trans (by (repeat (first | (with_reducible exact Chg.refl _ _) | (with_reducible refine Chg.drew ?_) | (refine Chg.set ?_ (.inr (by first | rfl | exact .inl rfl | exact .inr rfl)) _)))), ?_⟩
  unfold sideWp; simp only [applyP, List.nil_append, List.cons_append, List.foldl_cons, List.foldl_nil, Act.put, List.setIfInBounds_toArray, List.set_cons_zero, List.set_cons_succ, List.drop_succ_cons, List.drop_zero]
  go_wp2
  refine bodyPost_ret (v := .tuple #[.agg #[.int .i64 (T : Int), .int .i64 sp, .slice A len cap, .slice (some ⟨ρ'.rb, 0, none⟩) T ρ'.rc, .slice (some ⟨ρ'.sb, 0, none⟩) G.n ρ'.sc, .slice (some ⟨ρ'.fb, 0, none⟩) G.n ρ'.fc], .agg #[.int .i64 0, .bool false, .int .i64 0]]) (by simp only [results, Try.results40]; go_simp) rfl ?_
  refine ⟨_, rfl, rdone (h3) (hb.trans (hb3.mono (by omega))) ((unhide HI).lt hT0 hn0) (fun b hb' => by
    rcases hr3 b hb' with h | h
    · exact .inl h
    · exact .inr (by omega)) (w3 := w3) ?_ (by omega)⟩
  (repeat (first | (with_reducible exact Chg.refl _ _) | (with_reducible refine Chg.drew ?_) | (refine Chg.set ?_ (.inr (by first | rfl | exact .inl rfl | exact .inr rfl)) _)))
end
end Go.Proofs.Ytbkaopeajjechaa

namespace Go.Proofs.Ytbkaopeajjechaa
set_option linter.unusedVariables false
set_option linter.unusedSimpArgs false
open Go.RowKit Go.Maps
section
variable {T : Nat} {sp : Int} {A : Option Addr} {len cap : Nat} {S : Nat → ByteArray} {w : World} {ρ : RLay} {G : Gr}

set_option maxRecDepth 100000 in
set_option maxHeartbeats 4000000 in
theorem rDo_null (H : IsR T S w ρ G) (HS : ShOk w A len S) (hlen : len ≤ 9223372036854775807) (hSz : ∀ i, i < len → (S i).size ≤ 9223372036854775807) (hT0 : 1 ≤ T) (hT : T ≤ 8) (hn0 : 1 ≤ G.n) (hn : G.n ≤ 100000) (t : Nat) (ht : t < T) (z : Nat → Int) (h0 : opE len S z = 0) (k : Int) (hz : z 0 = k) (k1 : ¬ k = 1) (k8 : ¬ k = 8) (k9 : ¬ k = 9) (k10 : ¬ k = 10) (k11 : ¬ k = 11) (a : Nat) (ha : z 1 = (a : Int)) (la : a < 6) (hr : G.root t a = 0) :
    Calls Try.prog 40 #[rV T sp A len cap ρ G.n, .int .i64 (t : Int), opV z] w (RDone T sp A len cap S w ρ G (G) (.agg #[.int .i64 183, .bool false, .int .i64 0])) := by
  have HI := hide H
  have CO := hide (fun W (hW : Below w.heap.size w W) => refChk_any A len cap S hlen hSz z W (HS.keep hW))
  rw [h0] at CO
  simp only [opV, hz, ha] at CO
  unfold rV
  simp only [opV, hz, ha]
  clear H h0 hz ha
  go_enter Try.func40, Try.ntmps40
  go_upto_region 1 with fail
  refine wp_gen ?_
  intro w1 hw1
  obtain ⟨hB1, hz1, a0, a1, a2, a3⟩ := alloc4 hw1
  clear hw1
  obtain ⟨-, -, c2, -, -, -⟩ := cells6 a0
  obtain ⟨o0, o1, o2, o3, o4, o5, o6, o7⟩ := cells8 a1
  go_wp2_with fail
  refine (unhide CO _ hB1).mono ?_
  rintro e w2 ⟨rfl, hb2⟩
  clear c2 o0 o1 o2 o3 o4 o5 o6 o7 CO
  have hz2 := hb2.size
  have d0 : w2.heap[w.heap.size]? = _ := (hb2.block _ (by omega)).trans a0
  have d1 : w2.heap[w.heap.size + 1]? = _ := (hb2.block _ (by omega)).trans a1
  have d2 : w2.heap[w.heap.size + 2]? = _ := (hb2.block _ (by omega)).trans a2
  have d3 : w2.heap[w.heap.size + 3]? = _ := (hb2.block _ (by omega)).trans a3
  have hb : Below w.heap.size w w2 := hB1.trans (hb2.mono (by omega))
  clear a0 a1 a2 a3 hb2 hB1
  obtain ⟨c0, c1, c2, c3, c4, c5⟩ := cells6 d0
  obtain ⟨o0, o1, -, -, -, -, -, -⟩ := cells8 d1
  obtain ⟨r0, r1, r2, r3, r4, r5⟩ := cells6 d2
  have fr := frz d2
  obtain ⟨q0, q1, q2⟩ := cells3 d3
  have fq := frz d3
  have Brt := (unhide HI).rows t ht
  have rt := ((unhide HI).below hb).rows t ht
  have t0 : (0 : Int) ≤ (t : Int) := by omega
  have t1 : (t : Int) < (T : Int) := by omega
  have Bsa := (unhide HI).root t a ht la
  have sa := ((unhide HI).below hb).root t a ht la
  have ga0 : (0 : Int) ≤ (a : Int) := by omega
  have ga1 : (a : Int) < 6 := by omega
  rw [hr] at sa Bsa
  replace sa : w2.cell? ⟨ρ.rh t, a, none⟩ = some (.int .i64 0) := sa
  clear Bsa
  clear hr
  go_wp2
  refine bodyPost_ret (v := .tuple #[.agg #[.int .i64 (T : Int), .int .i64 sp, .slice A len cap, .slice (some ⟨ρ.rb, 0, none⟩) T ρ.rc, .slice (some ⟨ρ.sb, 0, none⟩) G.n ρ.sc, .slice (some ⟨ρ.fb, 0, none⟩) G.n ρ.fc], .agg #[.int .i64 183, .bool false, .int .i64 0]]) (by simp only [results, Try.results40]; go_simp) rfl ?_
  refine ⟨_, rfl, rdone ((unhide HI).below hb) (hb) ((unhide HI).lt hT0 hn0) (fun b hb => .inl hb) (w3 := w2) ?_ (by omega)⟩
  (repeat (first | (with_reducible exact Chg.refl _ _) | (with_reducible refine Chg.drew ?_) | (refine Chg.set ?_ (.inr (by first | rfl | exact .inl rfl | exact .inr rfl)) _)))

set_option maxRecDepth 100000 in
set_option maxHeartbeats 4000000 in
theorem rDo_is (H : IsR T S w ρ G) (HS : ShOk w A len S) (hlen : len ≤ 9223372036854775807) (hSz : ∀ i, i < len → (S i).size ≤ 9223372036854775807) (hT0 : 1 ≤ T) (hT : T ≤ 8) (hn0 : 1 ≤ G.n) (hn : G.n ≤ 100000) (t : Nat) (ht : t < T) (z : Nat → Int) (h0 : opE len S z = 0) (k : Int) (hz : z 0 = k) (k1 : ¬ k = 1) (k8 : ¬ k = 8) (k9 : ¬ k = 9) (k10 : ¬ k = 10) (k11 : ¬ k = 11) (a : Nat) (ha : z 1 = (a : Int)) (la : a < 6) (o y : Nat) (hr : G.root t a = o) (hoy : o = y + 1) (hy : y < G.n) (E : Int) (hE : ¬ E = 0) (hi : isE len S (G.sh (y + 1)) (z 4) (fldK (z 0)) = E) :
    Calls Try.prog 40 #[rV T sp A len cap ρ G.n, .int .i64 (t : Int), opV z] w (RDone T sp A len cap S w ρ G (G) (.agg #[.int .i64 E, .bool false, .int .i64 0])) := by
  have HI := hide H
  have CO := hide (fun W (hW : Below w.heap.size w W) => refChk_any A len cap S hlen hSz z W (HS.keep hW))
  rw [h0] at CO
  simp only [opV, hz, ha] at CO
  have CF := hide (fun W => refField_any z W)
  have CI := hide (fun W (hW : Below w.heap.size w W) => refIs_any A len cap S hlen hSz (G.sh (y + 1)) (z 4) (fldK (z 0)) W (HS.keep hW))
  rw [hi] at CI
  simp only [opV, hz, ha] at CF CI
  generalize fldK k = K at CF CI
  clear hi
  unfold rV
  simp only [opV, hz, ha]
  clear H h0 hz ha
  go_enter Try.func40, Try.ntmps40
  go_upto_region 1 with fail
  refine wp_gen ?_
  intro w1 hw1
  obtain ⟨hB1, hz1, a0, a1, a2, a3⟩ := alloc4 hw1
  clear hw1
  obtain ⟨-, -, c2, -, -, -⟩ := cells6 a0
  obtain ⟨o0, o1, o2, o3, o4, o5, o6, o7⟩ := cells8 a1
  go_wp2_with fail
  refine (unhide CO _ hB1).mono ?_
  rintro e w2 ⟨rfl, hb2⟩
  clear c2 o0 o1 o2 o3 o4 o5 o6 o7 CO
  have hz2 := hb2.size
  have d0 : w2.heap[w.heap.size]? = _ := (hb2.block _ (by omega)).trans a0
  have d1 : w2.heap[w.heap.size + 1]? = _ := (hb2.block _ (by omega)).trans a1
  have d2 : w2.heap[w.heap.size + 2]? = _ := (hb2.block _ (by omega)).trans a2
  have d3 : w2.heap[w.heap.size + 3]? = _ := (hb2.block _ (by omega)).trans a3
  have hb : Below w.heap.size w w2 := hB1.trans (hb2.mono (by omega))
  clear a0 a1 a2 a3 hb2 hB1
  obtain ⟨c0, c1, c2, c3, c4, c5⟩ := cells6 d0
  obtain ⟨o0, o1, o2, o3, o4, o5, o6, o7⟩ := cells8 d1
  have Brt := (unhide HI).rows t ht
  have rt := ((unhide HI).below hb).rows t ht
  have t0 : (0 : Int) ≤ (t : Int) := by omega
  have t1 : (t : Int) < (T : Int) := by omega
  have Bsa := (unhide HI).root t a ht la
  have sa := ((unhide HI).below hb).root t a ht la
  have ga0 : (0 : Int) ≤ (a : Int) := by omega
  have ga1 : (a : Int) < 6 := by omega
  rw [hr] at sa Bsa
  have hxy : (o : Int) - 1 = (y : Int) := by omega
  have ho : ¬ (o : Int) = 0 := by omega
  have y0 : (0 : Int) ≤ (y : Int) := by omega
  have y1 : (y : Int) < (G.n : Int) := by omega
  have sy := ((unhide HI).below hb).shp y hy
  clear hr hoy Brt
  go_upto_region 21 with fail
  have uc0 := Later.cell (block_lt c0) c0
  have uc1 := Later.cell (block_lt c1) c1
  have uc2 := Later.cell (block_lt c2) c2
  have uc3 := Later.cell (block_lt c3) c3
  have uc4 := Later.cell (block_lt c4) c4
  have uc5 := Later.cell (block_lt c5) c5
  have uo0 := Later.cell (block_lt o0) o0
  have uo1 := Later.cell (block_lt o1) o1
  have uo2 := Later.cell (block_lt o2) o2
  have uo3 := Later.cell (block_lt o3) o3
  have uo4 := Later.cell (block_lt o4) o4
  have uo5 := Later.cell (block_lt o5) o5
  have uo6 := Later.cell (block_lt o6) o6
  have uo7 := Later.cell (block_lt o7) o7
  have usy := Later.cell (block_lt sy) sy
  have CG := hide (fun v : Later w2 => later_call (unhide CF v.val))
  have CH := hide (fun v : Later w2 => later_same (unhide CI v.val (hb.trans (v.ok.mono (by omega)))))
  clear CF CI
  refine wp_region_later w2 (by kernel_rfl) (by kernel_rfl) (by repeat (first | exact Below.refl _ _ | assumption | refine Below.alloc ?_ (by first | (simp; done) | (simp; omega) | omega) _ | refine Below.setCell ?_ (by first | (simp; done) | (simp; omega) | omega) _ | apply Below.drew | refine Below.trans ?_ (Below.mono (by assumption) (by first | (simp; done) | (simp; omega) | omega)))) ?_; (repeat (first | go_big_quiet_skip | (go_big_quiet_want; (first | ((fail); go_big_quiet_on; simp only [Act.put, List.setIfInBounds_toArray, List.set_cons_zero, List.set_cons_succ]) | (go_big_quiet_op; (first | go_big_quiet_on | go_big_quiet_call ((first | (go_at_call 72; exact unhide CG _) | (go_at_call 71; exact unhide CH _))))))))); refine wpQuiet_nil ?_
  intro w3 hw3
  clear uc0 uc1 uc2 uc3 uc4 uc5 uo0 uo1 uo2 uo3 uo4 uo5 uo6 uo7 usy
  clear CG CH sy rt sa
  clear c0 c1 c2 c3 c4 c5 o0 o1 o2 o3 o4 o5 o6 o7
  have hz3 := hw3.size
  have e0 : w3.heap[w.heap.size]? = _ := (hw3.block _ (by omega)).trans d0
  have e1 : w3.heap[w.heap.size + 1]? = _ := (hw3.block _ (by omega)).trans d1
  have e2 : w3.heap[w.heap.size + 2]? = _ := (hw3.block _ (by omega)).trans d2
  have e3 : w3.heap[w.heap.size + 3]? = _ := (hw3.block _ (by omega)).trans d3
  have hb3 : Below w.heap.size w w3 := hb.trans (hw3.mono (by omega))
  clear d0 d1 d2 d3 hb hw3
  obtain ⟨c0, c1, c2, c3, c4, c5⟩ := cells6 e0
  obtain ⟨r0, r1, r2, r3, r4, r5⟩ := cells6 e2
  have fr := frz e2
  obtain ⟨q0, q1, q2⟩ := cells3 e3
  have fq := frz e3
  go_wp2
  refine bodyPost_ret (v := .tuple #[.agg #[.int .i64 (T : Int), .int .i64 sp, .slice A len cap, .slice (some ⟨ρ.rb, 0, none⟩) T ρ.rc, .slice (some ⟨ρ.sb, 0, none⟩) G.n ρ.sc, .slice (some ⟨ρ.fb, 0, none⟩) G.n ρ.fc], .agg #[.int .i64 E, .bool false, .int .i64 0]]) (by simp only [results, Try.results40]; go_simp) rfl ?_
  refine ⟨_, rfl, rdone ((unhide HI).below hb3) (hb3) ((unhide HI).lt hT0 hn0) (fun b hb => .inl hb) (w3 := w3) ?_ (by omega)⟩
  (repeat (first | (with_reducible exact Chg.refl _ _) | (with_reducible refine Chg.drew ?_) | (refine Chg.set ?_ (.inr (by first | rfl | exact .inl rfl | exact .inr rfl)) _)))

set_option maxRecDepth 100000 in
set_option maxHeartbeats 4000000 in
theorem rDo_5 (H : IsR T S w ρ G) (HS : ShOk w A len S) (hlen : len ≤ 9223372036854775807) (hSz : ∀ i, i < len → (S i).size ≤ 9223372036854775807) (hT0 : 1 ≤ T) (hT : T ≤ 8) (hn0 : 1 ≤ G.n) (hn : G.n ≤ 100000) (t : Nat) (ht : t < T) (z : Nat → Int) (h0 : opE len S z = 0) (hz : z 0 = 5) (a : Nat) (ha : z 1 = (a : Int)) (la : a < 6) (f : Nat) (hf : z 4 = (f : Int)) (o y : Nat) (hr : G.root t a = o) (hoy : o = y + 1) (hy : y < G.n) (lf : f < (S (G.sh (y + 1))).size) (hm : (S (G.sh (y + 1))).size ≤ 1000000) (hi : isE len S (G.sh (y + 1)) (z 4) (fldK (z 0)) = 0) (v : Int) (hv : G.fl (y + 1) f = v) :
    Calls Try.prog 40 #[rV T sp A len cap ρ G.n, .int .i64 (t : Int), opV z] w (RDone T sp A len cap S w ρ G (G) (.agg #[.int .i64 0, .bool false, .int .i64 (v)])) := by
  have HI := hide H
  have CO := hide (fun W (hW : Below w.heap.size w W) => refChk_any A len cap S hlen hSz z W (HS.keep hW))
  rw [h0] at CO
  simp only [opV, hz, ha, hf] at CO
  have CF := hide (fun W => refField_any z W)
  have CI := hide (fun W (hW : Below w.heap.size w W) => refIs_any A len cap S hlen hSz (G.sh (y + 1)) (z 4) (fldK (z 0)) W (HS.keep hW))
  rw [hi] at CI
  simp only [opV, hz, ha, hf] at CF CI
  generalize fldK 5 = K at CF CI
  clear hi
  unfold rV
  simp only [opV, hz, ha, hf]
  clear H h0 hz ha hf
  go_enter Try.func40, Try.ntmps40
  go_upto_region 1 with fail
  refine wp_gen ?_
  intro w1 hw1
  obtain ⟨hB1, hz1, a0, a1, a2, a3⟩ := alloc4 hw1
  clear hw1
  obtain ⟨-, -, c2, -, -, -⟩ := cells6 a0
  obtain ⟨o0, o1, o2, o3, o4, o5, o6, o7⟩ := cells8 a1
  go_wp2_with fail
  refine (unhide CO _ hB1).mono ?_
  rintro e w2 ⟨rfl, hb2⟩
  clear c2 o0 o1 o2 o3 o4 o5 o6 o7 CO
  have hz2 := hb2.size
  have d0 : w2.heap[w.heap.size]? = _ := (hb2.block _ (by omega)).trans a0
  have d1 : w2.heap[w.heap.size + 1]? = _ := (hb2.block _ (by omega)).trans a1
  have d2 : w2.heap[w.heap.size + 2]? = _ := (hb2.block _ (by omega)).trans a2
  have d3 : w2.heap[w.heap.size + 3]? = _ := (hb2.block _ (by omega)).trans a3
  have hb : Below w.heap.size w w2 := hB1.trans (hb2.mono (by omega))
  clear a0 a1 a2 a3 hb2 hB1
  obtain ⟨c0, c1, c2, c3, c4, c5⟩ := cells6 d0
  obtain ⟨o0, o1, o2, o3, o4, o5, o6, o7⟩ := cells8 d1
  have Brt := (unhide HI).rows t ht
  have rt := ((unhide HI).below hb).rows t ht
  have t0 : (0 : Int) ≤ (t : Int) := by omega
  have t1 : (t : Int) < (T : Int) := by omega
  have Bsa := (unhide HI).root t a ht la
  have sa := ((unhide HI).below hb).root t a ht la
  have ga0 : (0 : Int) ≤ (a : Int) := by omega
  have ga1 : (a : Int) < 6 := by omega
  rw [hr] at sa Bsa
  have hxy : (o : Int) - 1 = (y : Int) := by omega
  have ho : ¬ (o : Int) = 0 := by omega
  have y0 : (0 : Int) ≤ (y : Int) := by omega
  have y1 : (y : Int) < (G.n : Int) := by omega
  have sy := ((unhide HI).below hb).shp y hy
  clear hr hoy Brt
  go_upto_region 21 with fail
  have uc0 := Later.cell (block_lt c0) c0
  have uc1 := Later.cell (block_lt c1) c1
  have uc2 := Later.cell (block_lt c2) c2
  have uc3 := Later.cell (block_lt c3) c3
  have uc4 := Later.cell (block_lt c4) c4
  have uc5 := Later.cell (block_lt c5) c5
  have uo0 := Later.cell (block_lt o0) o0
  have uo1 := Later.cell (block_lt o1) o1
  have uo2 := Later.cell (block_lt o2) o2
  have uo3 := Later.cell (block_lt o3) o3
  have uo4 := Later.cell (block_lt o4) o4
  have uo5 := Later.cell (block_lt o5) o5
  have uo6 := Later.cell (block_lt o6) o6
  have uo7 := Later.cell (block_lt o7) o7
  have usy := Later.cell (block_lt sy) sy
  have CG := hide (fun v : Later w2 => later_call (unhide CF v.val))
  have CH := hide (fun v : Later w2 => later_same (unhide CI v.val (hb.trans (v.ok.mono (by omega)))))
  clear CF CI
  refine wp_region_later w2 (by kernel_rfl) (by kernel_rfl) (by repeat (first | exact Below.refl _ _ | assumption | refine Below.alloc ?_ (by first | (simp; done) | (simp; omega) | omega) _ | refine Below.setCell ?_ (by first | (simp; done) | (simp; omega) | omega) _ | apply Below.drew | refine Below.trans ?_ (Below.mono (by assumption) (by first | (simp; done) | (simp; omega) | omega)))) ?_; (repeat (first | go_big_quiet_skip | (go_big_quiet_want; (first | ((fail); go_big_quiet_on; simp only [Act.put, List.setIfInBounds_toArray, List.set_cons_zero, List.set_cons_succ]) | (go_big_quiet_op; (first | go_big_quiet_on | go_big_quiet_call ((first | (go_at_call 72; exact unhide CG _) | (go_at_call 71; exact unhide CH _))))))))); refine wpQuiet_nil ?_
  intro w3 hw3
  clear uc0 uc1 uc2 uc3 uc4 uc5 uo0 uo1 uo2 uo3 uo4 uo5 uo6 uo7 usy
  clear CG CH sy rt sa
  clear c0 c1 c2 c3 c4 c5 o0 o1 o2 o3 o4 o5 o6 o7
  have hz3 := hw3.size
  have e0 : w3.heap[w.heap.size]? = _ := (hw3.block _ (by omega)).trans d0
  have e1 : w3.heap[w.heap.size + 1]? = _ := (hw3.block _ (by omega)).trans d1
  have e2 : w3.heap[w.heap.size + 2]? = _ := (hw3.block _ (by omega)).trans d2
  have e3 : w3.heap[w.heap.size + 3]? = _ := (hw3.block _ (by omega)).trans d3
  have hb3 : Below w.heap.size w w3 := hb.trans (hw3.mono (by omega))
  clear d0 d1 d2 d3 hb hw3
  obtain ⟨c0, c1, c2, c3, c4, c5⟩ := cells6 e0
  obtain ⟨o0, o1, o2, o3, o4, o5, o6, o7⟩ := cells8 e1
  have r1 := ((unhide HI).below hb3).flds y hy
  have rf := ((unhide HI).below hb3).fld y f hy lf
  rw [hv] at rf
  have f0 : (0 : Int) ≤ (f : Int) := by omega
  have f1 : (f : Int) < ((S (G.sh (y + 1))).size : Int) := by omega
  clear hv
  go_upto_region 24 with fail
  have uc0 := Later.cell (block_lt c0) c0
  have uc1 := Later.cell (block_lt c1) c1
  have uc2 := Later.cell (block_lt c2) c2
  have uc3 := Later.cell (block_lt c3) c3
  have uc4 := Later.cell (block_lt c4) c4
  have uc5 := Later.cell (block_lt c5) c5
  have uo0 := Later.cell (block_lt o0) o0
  have uo1 := Later.cell (block_lt o1) o1
  have uo2 := Later.cell (block_lt o2) o2
  have uo3 := Later.cell (block_lt o3) o3
  have uo4 := Later.cell (block_lt o4) o4
  have uo5 := Later.cell (block_lt o5) o5
  have uo6 := Later.cell (block_lt o6) o6
  have uo7 := Later.cell (block_lt o7) o7
  have ur1 := Later.cell (block_lt r1) r1
  have urf := Later.cell (block_lt rf) rf
  refine wp_region_later w3 (by kernel_rfl) (by kernel_rfl) (by repeat (first | exact Below.refl _ _ | assumption | refine Below.alloc ?_ (by first | (simp; done) | (simp; omega) | omega) _ | refine Below.setCell ?_ (by first | (simp; done) | (simp; omega) | omega) _ | apply Below.drew | refine Below.trans ?_ (Below.mono (by assumption) (by first | (simp; done) | (simp; omega) | omega)))) ?_; (repeat (first | go_big_quiet_skip | (go_big_quiet_want; (first | ((fail); go_big_quiet_on; simp only [Act.put, List.setIfInBounds_toArray, List.set_cons_zero, List.set_cons_succ]) | (go_big_quiet_op; (first | go_big_quiet_on | go_big_quiet_call ((fail)))))))); refine wpQuiet_nil ?_
  intro w4 hw4
  clear uc0 uc1 uc2 uc3 uc4 uc5 uo0 uo1 uo2 uo3 uo4 uo5 uo6 uo7 ur1 urf
  clear r1 rf
  clear c0 c1 c2 c3 c4 c5 o0 o1 o2 o3 o4 o5 o6 o7
  have hz4 := hw4.size
  have f0 : w4.heap[w.heap.size]? = _ := (hw4.block _ (by omega)).trans e0
  have f1 : w4.heap[w.heap.size + 1]? = _ := (hw4.block _ (by omega)).trans e1
  have f2 : w4.heap[w.heap.size + 2]? = _ := (hw4.block _ (by omega)).trans e2
  have f3 : w4.heap[w.heap.size + 3]? = _ := (hw4.block _ (by omega)).trans e3
  have hb4 : Below w.heap.size w w4 := hb3.trans (hw4.mono (by omega))
  clear e0 e1 e2 e3 hb3 hw4
  obtain ⟨c0, c1, c2, c3, c4, c5⟩ := cells6 f0
  obtain ⟨o0, -, -, -, -, -, -, -⟩ := cells8 f1
  obtain ⟨r0, r1, r2, r3, r4, r5⟩ := cells6 f2
  have fr := frz f2
  obtain ⟨q0, q1, q2⟩ := cells3 f3
  have fq := frz f3
  go_wp2
  refine bodyPost_ret (v := .tuple #[.agg #[.int .i64 (T : Int), .int .i64 sp, .slice A len cap, .slice (some ⟨ρ.rb, 0, none⟩) T ρ.rc, .slice (some ⟨ρ.sb, 0, none⟩) G.n ρ.sc, .slice (some ⟨ρ.fb, 0, none⟩) G.n ρ.fc], .agg #[.int .i64 0, .bool false, .int .i64 (v)]]) (by simp only [results, Try.results40]; go_simp) rfl ?_
  refine ⟨_, rfl, rdone ((unhide HI).below hb4) (hb4) ((unhide HI).lt hT0 hn0) (fun b hb => .inl hb) (w3 := w4) ?_ (by omega)⟩
  (repeat (first | (with_reducible exact Chg.refl _ _) | (with_reducible refine Chg.drew ?_) | (refine Chg.set ?_ (.inr (by first | rfl | exact .inl rfl | exact .inr rfl)) _)))

set_option maxRecDepth 100000 in
set_option maxHeartbeats 4000000 in
theorem rDo_6 (H : IsR T S w ρ G) (HS : ShOk w A len S) (hlen : len ≤ 9223372036854775807) (hSz : ∀ i, i < len → (S i).size ≤ 9223372036854775807) (hT0 : 1 ≤ T) (hT : T ≤ 8) (hn0 : 1 ≤ G.n) (hn : G.n ≤ 100000) (t : Nat) (ht : t < T) (z : Nat → Int) (h0 : opE len S z = 0) (hz : z 0 = 6) (a : Nat) (ha : z 1 = (a : Int)) (la : a < 6) (f : Nat) (hf : z 4 = (f : Int)) (o y : Nat) (hr : G.root t a = o) (hoy : o = y + 1) (hy : y < G.n) (lf : f < (S (G.sh (y + 1))).size) (hm : (S (G.sh (y + 1))).size ≤ 1000000) (hi : isE len S (G.sh (y + 1)) (z 4) (fldK (z 0)) = 0) (v : Int) (hv : G.fl (y + 1) f = v) :
    Calls Try.prog 40 #[rV T sp A len cap ρ G.n, .int .i64 (t : Int), opV z] w (RDone T sp A len cap S w ρ G (G.field (y + 1) f (z 6)) (.agg #[.int .i64 0, .bool false, .int .i64 0])) := by
  have HI := hide H
  have CO := hide (fun W (hW : Below w.heap.size w W) => refChk_any A len cap S hlen hSz z W (HS.keep hW))
  rw [h0] at CO
  simp only [opV, hz, ha, hf] at CO
  have CF := hide (fun W => refField_any z W)
  have CI := hide (fun W (hW : Below w.heap.size w W) => refIs_any A len cap S hlen hSz (G.sh (y + 1)) (z 4) (fldK (z 0)) W (HS.keep hW))
  rw [hi] at CI
  simp only [opV, hz, ha, hf] at CF CI
  generalize fldK 6 = K at CF CI
  clear hi
  unfold rV
  simp only [opV, hz, ha, hf]
  clear H h0 hz ha hf
  go_enter Try.func40, Try.ntmps40
  go_upto_region 1 with fail
  refine wp_gen ?_
  intro w1 hw1
  obtain ⟨hB1, hz1, a0, a1, a2, a3⟩ := alloc4 hw1
  clear hw1
  obtain ⟨-, -, c2, -, -, -⟩ := cells6 a0
  obtain ⟨o0, o1, o2, o3, o4, o5, o6, o7⟩ := cells8 a1
  go_wp2_with fail
  refine (unhide CO _ hB1).mono ?_
  rintro e w2 ⟨rfl, hb2⟩
  clear c2 o0 o1 o2 o3 o4 o5 o6 o7 CO
  have hz2 := hb2.size
  have d0 : w2.heap[w.heap.size]? = _ := (hb2.block _ (by omega)).trans a0
  have d1 : w2.heap[w.heap.size + 1]? = _ := (hb2.block _ (by omega)).trans a1
  have d2 : w2.heap[w.heap.size + 2]? = _ := (hb2.block _ (by omega)).trans a2
  have d3 : w2.heap[w.heap.size + 3]? = _ := (hb2.block _ (by omega)).trans a3
  have hb : Below w.heap.size w w2 := hB1.trans (hb2.mono (by omega))
  clear a0 a1 a2 a3 hb2 hB1
  obtain ⟨c0, c1, c2, c3, c4, c5⟩ := cells6 d0
  obtain ⟨o0, o1, o2, o3, o4, o5, o6, o7⟩ := cells8 d1
  have Brt := (unhide HI).rows t ht
  have rt := ((unhide HI).below hb).rows t ht
  have t0 : (0 : Int) ≤ (t : Int) := by omega
  have t1 : (t : Int) < (T : Int) := by omega
  have Bsa := (unhide HI).root t a ht la
  have sa := ((unhide HI).below hb).root t a ht la
  have ga0 : (0 : Int) ≤ (a : Int) := by omega
  have ga1 : (a : Int) < 6 := by omega
  rw [hr] at sa Bsa
  have hxy : (o : Int) - 1 = (y : Int) := by omega
  have ho : ¬ (o : Int) = 0 := by omega
  have y0 : (0 : Int) ≤ (y : Int) := by omega
  have y1 : (y : Int) < (G.n : Int) := by omega
  have sy := ((unhide HI).below hb).shp y hy
  clear hr hoy Brt
  go_upto_region 21 with fail
  have uc0 := Later.cell (block_lt c0) c0
  have uc1 := Later.cell (block_lt c1) c1
  have uc2 := Later.cell (block_lt c2) c2
  have uc3 := Later.cell (block_lt c3) c3
  have uc4 := Later.cell (block_lt c4) c4
  have uc5 := Later.cell (block_lt c5) c5
  have uo0 := Later.cell (block_lt o0) o0
  have uo1 := Later.cell (block_lt o1) o1
  have uo2 := Later.cell (block_lt o2) o2
  have uo3 := Later.cell (block_lt o3) o3
  have uo4 := Later.cell (block_lt o4) o4
  have uo5 := Later.cell (block_lt o5) o5
  have uo6 := Later.cell (block_lt o6) o6
  have uo7 := Later.cell (block_lt o7) o7
  have usy := Later.cell (block_lt sy) sy
  have CG := hide (fun v : Later w2 => later_call (unhide CF v.val))
  have CH := hide (fun v : Later w2 => later_same (unhide CI v.val (hb.trans (v.ok.mono (by omega)))))
  clear CF CI
  refine wp_region_later w2 (by kernel_rfl) (by kernel_rfl) (by repeat (first | exact Below.refl _ _ | assumption | refine Below.alloc ?_ (by first | (simp; done) | (simp; omega) | omega) _ | refine Below.setCell ?_ (by first | (simp; done) | (simp; omega) | omega) _ | apply Below.drew | refine Below.trans ?_ (Below.mono (by assumption) (by first | (simp; done) | (simp; omega) | omega)))) ?_; (repeat (first | go_big_quiet_skip | (go_big_quiet_want; (first | ((fail); go_big_quiet_on; simp only [Act.put, List.setIfInBounds_toArray, List.set_cons_zero, List.set_cons_succ]) | (go_big_quiet_op; (first | go_big_quiet_on | go_big_quiet_call ((first | (go_at_call 72; exact unhide CG _) | (go_at_call 71; exact unhide CH _))))))))); refine wpQuiet_nil ?_
  intro w3 hw3
  clear uc0 uc1 uc2 uc3 uc4 uc5 uo0 uo1 uo2 uo3 uo4 uo5 uo6 uo7 usy
  clear CG CH sy rt sa
  clear c0 c1 c2 c3 c4 c5 o0 o1 o2 o3 o4 o5 o6 o7
  have hz3 := hw3.size
  have e0 : w3.heap[w.heap.size]? = _ := (hw3.block _ (by omega)).trans d0
  have e1 : w3.heap[w.heap.size + 1]? = _ := (hw3.block _ (by omega)).trans d1
  have e2 : w3.heap[w.heap.size + 2]? = _ := (hw3.block _ (by omega)).trans d2
  have e3 : w3.heap[w.heap.size + 3]? = _ := (hw3.block _ (by omega)).trans d3
  have hb3 : Below w.heap.size w w3 := hb.trans (hw3.mono (by omega))
  clear d0 d1 d2 d3 hb hw3
  obtain ⟨c0, c1, c2, c3, c4, c5⟩ := cells6 e0
  obtain ⟨o0, o1, o2, o3, o4, o5, o6, o7⟩ := cells8 e1
  have r1 := ((unhide HI).below hb3).flds y hy
  have rf := ((unhide HI).below hb3).fld y f hy lf
  rw [hv] at rf
  have f0 : (0 : Int) ≤ (f : Int) := by omega
  have f1 : (f : Int) < ((S (G.sh (y + 1))).size : Int) := by omega
  clear hv
  go_upto_region 24 with fail
  have uc0 := Later.cell (block_lt c0) c0
  have uc1 := Later.cell (block_lt c1) c1
  have uc2 := Later.cell (block_lt c2) c2
  have uc3 := Later.cell (block_lt c3) c3
  have uc4 := Later.cell (block_lt c4) c4
  have uc5 := Later.cell (block_lt c5) c5
  have uo0 := Later.cell (block_lt o0) o0
  have uo1 := Later.cell (block_lt o1) o1
  have uo2 := Later.cell (block_lt o2) o2
  have uo3 := Later.cell (block_lt o3) o3
  have uo4 := Later.cell (block_lt o4) o4
  have uo5 := Later.cell (block_lt o5) o5
  have uo6 := Later.cell (block_lt o6) o6
  have uo7 := Later.cell (block_lt o7) o7
  have ur1 := Later.cell (block_lt r1) r1
  have urf := Later.cell (block_lt rf) rf
  refine wp_region_later w3 (by kernel_rfl) (by kernel_rfl) (by repeat (first | exact Below.refl _ _ | assumption | refine Below.alloc ?_ (by first | (simp; done) | (simp; omega) | omega) _ | refine Below.setCell ?_ (by first | (simp; done) | (simp; omega) | omega) _ | apply Below.drew | refine Below.trans ?_ (Below.mono (by assumption) (by first | (simp; done) | (simp; omega) | omega)))) ?_; (repeat (first | go_big_quiet_skip | (go_big_quiet_want; (first | ((fail); go_big_quiet_on; simp only [Act.put, List.setIfInBounds_toArray, List.set_cons_zero, List.set_cons_succ]) | (go_big_quiet_op; (first | go_big_quiet_on | go_big_quiet_call ((fail)))))))); refine wpQuiet_nil ?_
  intro w4 hw4
  clear uc0 uc1 uc2 uc3 uc4 uc5 uo0 uo1 uo2 uo3 uo4 uo5 uo6 uo7 ur1 urf
  clear r1 rf
  clear c0 c1 c2 c3 c4 c5 o0 o1 o2 o3 o4 o5 o6 o7
  have hz4 := hw4.size
  have f0 : w4.heap[w.heap.size]? = _ := (hw4.block _ (by omega)).trans e0
  have f1 : w4.heap[w.heap.size + 1]? = _ := (hw4.block _ (by omega)).trans e1
  have f2 : w4.heap[w.heap.size + 2]? = _ := (hw4.block _ (by omega)).trans e2
  have f3 : w4.heap[w.heap.size + 3]? = _ := (hw4.block _ (by omega)).trans e3
  have hb4 : Below w.heap.size w w4 := hb3.trans (hw4.mono (by omega))
  clear e0 e1 e2 e3 hb3 hw4
  obtain ⟨c0, c1, c2, c3, c4, c5⟩ := cells6 f0
  obtain ⟨o0, -, -, -, o4, -, o6, -⟩ := cells8 f1
  have HS0 := fun W (hW : Below w4.heap.size w4 W) => rField_any (sp := sp) (A := A) (len := len) (cap := cap) ((unhide HI).below (hb4.trans (hW.mono (by omega)))) (by omega) o y f (z 6) hxy hy lf hm
  unfold rV at HS0
  go_wp2_with fail
  refine (HS0 _ (Below.refl _ _)).mono ?_
  rintro e w5 ⟨ρ', rfl, h3, hb3, hr3⟩
  clear HS0
  clear c0 c1 c2 c3 c4 c5 o0 o4 o6
  have hz5 := hb3.size
  have j0 : w5.heap[w.heap.size]? = _ := (hb3.block _ (by omega)).trans f0
  have j1 : w5.heap[w.heap.size + 1]? = _ := (hb3.block _ (by omega)).trans f1
  have j2 : w5.heap[w.heap.size + 2]? = _ := (hb3.block _ (by omega)).trans f2
  have j3 : w5.heap[w.heap.size + 3]? = _ := (hb3.block _ (by omega)).trans f3
  obtain ⟨r0, r1, r2, r3, r4, r5⟩ := cells6 j2
  have fr := frz j2
  obtain ⟨q0, q1, q2⟩ := cells3 j3
  have fq := frz j3
  go_wp2
  refine bodyPost_ret (v := .tuple #[.agg #[.int .i64 (T : Int), .int .i64 sp, .slice A len cap, .slice (some ⟨ρ'.rb, 0, none⟩) T ρ'.rc, .slice (some ⟨ρ'.sb, 0, none⟩) G.n ρ'.sc, .slice (some ⟨ρ'.fb, 0, none⟩) G.n ρ'.fc], .agg #[.int .i64 0, .bool false, .int .i64 0]]) (by simp only [results, Try.results40]; go_simp) rfl ?_
  refine ⟨_, rfl, rdone (h3) (hb4.trans (hb3.mono (by omega))) ((unhide HI).lt hT0 hn0) (fun b hb' => by
    rcases hr3 b hb' with h | h
    · exact .inl h
    · exact .inr (by omega)) (w3 := w5) ?_ (by omega)⟩
  (repeat (first | (with_reducible exact Chg.refl _ _) | (with_reducible refine Chg.drew ?_) | (refine Chg.set ?_ (.inr (by first | rfl | exact .inl rfl | exact .inr rfl)) _)))

set_option maxRecDepth 100000 in
set_option maxHeartbeats 4000000 in
theorem rDo_7n (H : IsR T S w ρ G) (HS : ShOk w A len S) (hlen : len ≤ 9223372036854775807) (hSz : ∀ i, i < len → (S i).size ≤ 9223372036854775807) (hT0 : 1 ≤ T) (hT : T ≤ 8) (hn0 : 1 ≤ G.n) (hn : G.n ≤ 100000) (t : Nat) (ht : t < T) (z : Nat → Int) (h0 : opE len S z = 0) (hz : z 0 = 7) (a : Nat) (ha : z 1 = (a : Int)) (la : a < 6) (f : Nat) (hf : z 4 = (f : Int)) (o y : Nat) (hr : G.root t a = o) (hoy : o = y + 1) (hy : y < G.n) (lf : f < (S (G.sh (y + 1))).size) (hm : (S (G.sh (y + 1))).size ≤ 1000000) (hi : isE len S (G.sh (y + 1)) (z 4) (fldK (z 0)) = 0) (v : Int) (hv : G.fl (y + 1) f = v) (hq : ¬ v = z 6) :
    Calls Try.prog 40 #[rV T sp A len cap ρ G.n, .int .i64 (t : Int), opV z] w (RDone T sp A len cap S w ρ G (G) (.agg #[.int .i64 0, .bool false, .int .i64 0])) := by
  have HI := hide H
  have CO := hide (fun W (hW : Below w.heap.size w W) => refChk_any A len cap S hlen hSz z W (HS.keep hW))
  rw [h0] at CO
  simp only [opV, hz, ha, hf] at CO
  have CF := hide (fun W => refField_any z W)
  have CI := hide (fun W (hW : Below w.heap.size w W) => refIs_any A len cap S hlen hSz (G.sh (y + 1)) (z 4) (fldK (z 0)) W (HS.keep hW))
  rw [hi] at CI
  simp only [opV, hz, ha, hf] at CF CI
  generalize fldK 7 = K at CF CI
  clear hi
  unfold rV
  simp only [opV, hz, ha, hf]
  clear H h0 hz ha hf
  go_enter Try.func40, Try.ntmps40
  go_upto_region 1 with fail
  refine wp_gen ?_
  intro w1 hw1
  obtain ⟨hB1, hz1, a0, a1, a2, a3⟩ := alloc4 hw1
  clear hw1
  obtain ⟨-, -, c2, -, -, -⟩ := cells6 a0
  obtain ⟨o0, o1, o2, o3, o4, o5, o6, o7⟩ := cells8 a1
  go_wp2_with fail
  refine (unhide CO _ hB1).mono ?_
  rintro e w2 ⟨rfl, hb2⟩
  clear c2 o0 o1 o2 o3 o4 o5 o6 o7 CO
  have hz2 := hb2.size
  have d0 : w2.heap[w.heap.size]? = _ := (hb2.block _ (by omega)).trans a0
  have d1 : w2.heap[w.heap.size + 1]? = _ := (hb2.block _ (by omega)).trans a1
  have d2 : w2.heap[w.heap.size + 2]? = _ := (hb2.block _ (by omega)).trans a2
  have d3 : w2.heap[w.heap.size + 3]? = _ := (hb2.block _ (by omega)).trans a3
  have hb : Below w.heap.size w w2 := hB1.trans (hb2.mono (by omega))
  clear a0 a1 a2 a3 hb2 hB1
  obtain ⟨c0, c1, c2, c3, c4, c5⟩ := cells6 d0
  obtain ⟨o0, o1, o2, o3, o4, o5, o6, o7⟩ := cells8 d1
  have Brt := (unhide HI).rows t ht
  have rt := ((unhide HI).below hb).rows t ht
  have t0 : (0 : Int) ≤ (t : Int) := by omega
  have t1 : (t : Int) < (T : Int) := by omega
  have Bsa := (unhide HI).root t a ht la
  have sa := ((unhide HI).below hb).root t a ht la
  have ga0 : (0 : Int) ≤ (a : Int) := by omega
  have ga1 : (a : Int) < 6 := by omega
  rw [hr] at sa Bsa
  have hxy : (o : Int) - 1 = (y : Int) := by omega
  have ho : ¬ (o : Int) = 0 := by omega
  have y0 : (0 : Int) ≤ (y : Int) := by omega
  have y1 : (y : Int) < (G.n : Int) := by omega
  have sy := ((unhide HI).below hb).shp y hy
  clear hr hoy Brt
  go_upto_region 21 with fail
  have uc0 := Later.cell (block_lt c0) c0
  have uc1 := Later.cell (block_lt c1) c1
  have uc2 := Later.cell (block_lt c2) c2
  have uc3 := Later.cell (block_lt c3) c3
  have uc4 := Later.cell (block_lt c4) c4
  have uc5 := Later.cell (block_lt c5) c5
  have uo0 := Later.cell (block_lt o0) o0
  have uo1 := Later.cell (block_lt o1) o1
  have uo2 := Later.cell (block_lt o2) o2
  have uo3 := Later.cell (block_lt o3) o3
  have uo4 := Later.cell (block_lt o4) o4
  have uo5 := Later.cell (block_lt o5) o5
  have uo6 := Later.cell (block_lt o6) o6
  have uo7 := Later.cell (block_lt o7) o7
  have usy := Later.cell (block_lt sy) sy
  have CG := hide (fun v : Later w2 => later_call (unhide CF v.val))
  have CH := hide (fun v : Later w2 => later_same (unhide CI v.val (hb.trans (v.ok.mono (by omega)))))
  clear CF CI
  refine wp_region_later w2 (by kernel_rfl) (by kernel_rfl) (by repeat (first | exact Below.refl _ _ | assumption | refine Below.alloc ?_ (by first | (simp; done) | (simp; omega) | omega) _ | refine Below.setCell ?_ (by first | (simp; done) | (simp; omega) | omega) _ | apply Below.drew | refine Below.trans ?_ (Below.mono (by assumption) (by first | (simp; done) | (simp; omega) | omega)))) ?_; (repeat (first | go_big_quiet_skip | (go_big_quiet_want; (first | ((fail); go_big_quiet_on; simp only [Act.put, List.setIfInBounds_toArray, List.set_cons_zero, List.set_cons_succ]) | (go_big_quiet_op; (first | go_big_quiet_on | go_big_quiet_call ((first | (go_at_call 72; exact unhide CG _) | (go_at_call 71; exact unhide CH _))))))))); refine wpQuiet_nil ?_
  intro w3 hw3
  clear uc0 uc1 uc2 uc3 uc4 uc5 uo0 uo1 uo2 uo3 uo4 uo5 uo6 uo7 usy
  clear CG CH sy rt sa
  clear c0 c1 c2 c3 c4 c5 o0 o1 o2 o3 o4 o5 o6 o7
  have hz3 := hw3.size
  have e0 : w3.heap[w.heap.size]? = _ := (hw3.block _ (by omega)).trans d0
  have e1 : w3.heap[w.heap.size + 1]? = _ := (hw3.block _ (by omega)).trans d1
  have e2 : w3.heap[w.heap.size + 2]? = _ := (hw3.block _ (by omega)).trans d2
  have e3 : w3.heap[w.heap.size + 3]? = _ := (hw3.block _ (by omega)).trans d3
  have hb3 : Below w.heap.size w w3 := hb.trans (hw3.mono (by omega))
  clear d0 d1 d2 d3 hb hw3
  obtain ⟨c0, c1, c2, c3, c4, c5⟩ := cells6 e0
  obtain ⟨o0, o1, o2, o3, o4, o5, o6, o7⟩ := cells8 e1
  have r1 := ((unhide HI).below hb3).flds y hy
  have rf := ((unhide HI).below hb3).fld y f hy lf
  rw [hv] at rf
  have f0 : (0 : Int) ≤ (f : Int) := by omega
  have f1 : (f : Int) < ((S (G.sh (y + 1))).size : Int) := by omega
  clear hv
  go_upto_region 24 with fail
  have uc0 := Later.cell (block_lt c0) c0
  have uc1 := Later.cell (block_lt c1) c1
  have uc2 := Later.cell (block_lt c2) c2
  have uc3 := Later.cell (block_lt c3) c3
  have uc4 := Later.cell (block_lt c4) c4
  have uc5 := Later.cell (block_lt c5) c5
  have uo0 := Later.cell (block_lt o0) o0
  have uo1 := Later.cell (block_lt o1) o1
  have uo2 := Later.cell (block_lt o2) o2
  have uo3 := Later.cell (block_lt o3) o3
  have uo4 := Later.cell (block_lt o4) o4
  have uo5 := Later.cell (block_lt o5) o5
  have uo6 := Later.cell (block_lt o6) o6
  have uo7 := Later.cell (block_lt o7) o7
  have ur1 := Later.cell (block_lt r1) r1
  have urf := Later.cell (block_lt rf) rf
  refine wp_region_later w3 (by kernel_rfl) (by kernel_rfl) (by repeat (first | exact Below.refl _ _ | assumption | refine Below.alloc ?_ (by first | (simp; done) | (simp; omega) | omega) _ | refine Below.setCell ?_ (by first | (simp; done) | (simp; omega) | omega) _ | apply Below.drew | refine Below.trans ?_ (Below.mono (by assumption) (by first | (simp; done) | (simp; omega) | omega)))) ?_; (repeat (first | go_big_quiet_skip | (go_big_quiet_want; (first | ((fail); go_big_quiet_on; simp only [Act.put, List.setIfInBounds_toArray, List.set_cons_zero, List.set_cons_succ]) | (go_big_quiet_op; (first | go_big_quiet_on | go_big_quiet_call ((fail)))))))); refine wpQuiet_nil ?_
  intro w4 hw4
  clear uc0 uc1 uc2 uc3 uc4 uc5 uo0 uo1 uo2 uo3 uo4 uo5 uo6 uo7 ur1 urf
  clear r1 rf
  clear c0 c1 c2 c3 c4 c5 o0 o1 o2 o3 o4 o5 o6 o7
  have hz4 := hw4.size
  have f0 : w4.heap[w.heap.size]? = _ := (hw4.block _ (by omega)).trans e0
  have f1 : w4.heap[w.heap.size + 1]? = _ := (hw4.block _ (by omega)).trans e1
  have f2 : w4.heap[w.heap.size + 2]? = _ := (hw4.block _ (by omega)).trans e2
  have f3 : w4.heap[w.heap.size + 3]? = _ := (hw4.block _ (by omega)).trans e3
  have hb4 : Below w.heap.size w w4 := hb3.trans (hw4.mono (by omega))
  clear e0 e1 e2 e3 hb3 hw4
  obtain ⟨c0, c1, c2, c3, c4, c5⟩ := cells6 f0
  obtain ⟨o0, -, -, -, -, -, o6, -⟩ := cells8 f1
  obtain ⟨r0, r1, r2, r3, r4, r5⟩ := cells6 f2
  have fr := frz f2
  obtain ⟨q0, q1, q2⟩ := cells3 f3
  have fq := frz f3
  go_wp2
  refine bodyPost_ret (v := .tuple #[.agg #[.int .i64 (T : Int), .int .i64 sp, .slice A len cap, .slice (some ⟨ρ.rb, 0, none⟩) T ρ.rc, .slice (some ⟨ρ.sb, 0, none⟩) G.n ρ.sc, .slice (some ⟨ρ.fb, 0, none⟩) G.n ρ.fc], .agg #[.int .i64 0, .bool false, .int .i64 0]]) (by simp only [results, Try.results40]; go_simp) rfl ?_
  refine ⟨_, rfl, rdone ((unhide HI).below hb4) (hb4) ((unhide HI).lt hT0 hn0) (fun b hb => .inl hb) (w3 := w4) ?_ (by omega)⟩
  (repeat (first | (with_reducible exact Chg.refl _ _) | (with_reducible refine Chg.drew ?_) | (refine Chg.set ?_ (.inr (by first | rfl | exact .inl rfl | exact .inr rfl)) _)))

set_option maxRecDepth 100000 in
set_option maxHeartbeats 4000000 in
theorem rDo_7y (H : IsR T S w ρ G) (HS : ShOk w A len S) (hlen : len ≤ 9223372036854775807) (hSz : ∀ i, i < len → (S i).size ≤ 9223372036854775807) (hT0 : 1 ≤ T) (hT : T ≤ 8) (hn0 : 1 ≤ G.n) (hn : G.n ≤ 100000) (t : Nat) (ht : t < T) (z : Nat → Int) (h0 : opE len S z = 0) (hz : z 0 = 7) (a : Nat) (ha : z 1 = (a : Int)) (la : a < 6) (f : Nat) (hf : z 4 = (f : Int)) (o y : Nat) (hr : G.root t a = o) (hoy : o = y + 1) (hy : y < G.n) (lf : f < (S (G.sh (y + 1))).size) (hm : (S (G.sh (y + 1))).size ≤ 1000000) (hi : isE len S (G.sh (y + 1)) (z 4) (fldK (z 0)) = 0) (hv : G.fl (y + 1) f = z 6) :
    Calls Try.prog 40 #[rV T sp A len cap ρ G.n, .int .i64 (t : Int), opV z] w (RDone T sp A len cap S w ρ G (G.field (y + 1) f (z 7)) (.agg #[.int .i64 0, .bool true, .int .i64 0])) := by
  have HI := hide H
  have CO := hide (fun W (hW : Below w.heap.size w W) => refChk_any A len cap S hlen hSz z W (HS.keep hW))
  rw [h0] at CO
  simp only [opV, hz, ha, hf] at CO
  have CF := hide (fun W => refField_any z W)
  have CI := hide (fun W (hW : Below w.heap.size w W) => refIs_any A len cap S hlen hSz (G.sh (y + 1)) (z 4) (fldK (z 0)) W (HS.keep hW))
  rw [hi] at CI
  simp only [opV, hz, ha, hf] at CF CI
  generalize fldK 7 = K at CF CI
  clear hi
  unfold rV
  simp only [opV, hz, ha, hf]
  clear H h0 hz ha hf
  go_enter Try.func40, Try.ntmps40
  go_upto_region 1 with fail
  refine wp_gen ?_
  intro w1 hw1
  obtain ⟨hB1, hz1, a0, a1, a2, a3⟩ := alloc4 hw1
  clear hw1
  obtain ⟨-, -, c2, -, -, -⟩ := cells6 a0
  obtain ⟨o0, o1, o2, o3, o4, o5, o6, o7⟩ := cells8 a1
  go_wp2_with fail
  refine (unhide CO _ hB1).mono ?_
  rintro e w2 ⟨rfl, hb2⟩
  clear c2 o0 o1 o2 o3 o4 o5 o6 o7 CO
  have hz2 := hb2.size
  have d0 : w2.heap[w.heap.size]? = _ := (hb2.block _ (by omega)).trans a0
  have d1 : w2.heap[w.heap.size + 1]? = _ := (hb2.block _ (by omega)).trans a1
  have d2 : w2.heap[w.heap.size + 2]? = _ := (hb2.block _ (by omega)).trans a2
  have d3 : w2.heap[w.heap.size + 3]? = _ := (hb2.block _ (by omega)).trans a3
  have hb : Below w.heap.size w w2 := hB1.trans (hb2.mono (by omega))
  clear a0 a1 a2 a3 hb2 hB1
  obtain ⟨c0, c1, c2, c3, c4, c5⟩ := cells6 d0
  obtain ⟨o0, o1, o2, o3, o4, o5, o6, o7⟩ := cells8 d1
  have Brt := (unhide HI).rows t ht
  have rt := ((unhide HI).below hb).rows t ht
  have t0 : (0 : Int) ≤ (t : Int) := by omega
  have t1 : (t : Int) < (T : Int) := by omega
  have Bsa := (unhide HI).root t a ht la
  have sa := ((unhide HI).below hb).root t a ht la
  have ga0 : (0 : Int) ≤ (a : Int) := by omega
  have ga1 : (a : Int) < 6 := by omega
  rw [hr] at sa Bsa
  have hxy : (o : Int) - 1 = (y : Int) := by omega
  have ho : ¬ (o : Int) = 0 := by omega
  have y0 : (0 : Int) ≤ (y : Int) := by omega
  have y1 : (y : Int) < (G.n : Int) := by omega
  have sy := ((unhide HI).below hb).shp y hy
  clear hr hoy Brt
  go_upto_region 21 with fail
  have uc0 := Later.cell (block_lt c0) c0
  have uc1 := Later.cell (block_lt c1) c1
  have uc2 := Later.cell (block_lt c2) c2
  have uc3 := Later.cell (block_lt c3) c3
  have uc4 := Later.cell (block_lt c4) c4
  have uc5 := Later.cell (block_lt c5) c5
  have uo0 := Later.cell (block_lt o0) o0
  have uo1 := Later.cell (block_lt o1) o1
  have uo2 := Later.cell (block_lt o2) o2
  have uo3 := Later.cell (block_lt o3) o3
  have uo4 := Later.cell (block_lt o4) o4
  have uo5 := Later.cell (block_lt o5) o5
  have uo6 := Later.cell (block_lt o6) o6
  have uo7 := Later.cell (block_lt o7) o7
  have usy := Later.cell (block_lt sy) sy
  have CG := hide (fun v : Later w2 => later_call (unhide CF v.val))
  have CH := hide (fun v : Later w2 => later_same (unhide CI v.val (hb.trans (v.ok.mono (by omega)))))
  clear CF CI
  refine wp_region_later w2 (by kernel_rfl) (by kernel_rfl) (by repeat (first | exact Below.refl _ _ | assumption | refine Below.alloc ?_ (by first | (simp; done) | (simp; omega) | omega) _ | refine Below.setCell ?_ (by first | (simp; done) | (simp; omega) | omega) _ | apply Below.drew | refine Below.trans ?_ (Below.mono (by assumption) (by first | (simp; done) | (simp; omega) | omega)))) ?_; (repeat (first | go_big_quiet_skip | (go_big_quiet_want; (first | ((fail); go_big_quiet_on; simp only [Act.put, List.setIfInBounds_toArray, List.set_cons_zero, List.set_cons_succ]) | (go_big_quiet_op; (first | go_big_quiet_on | go_big_quiet_call ((first | (go_at_call 72; exact unhide CG _) | (go_at_call 71; exact unhide CH _))))))))); refine wpQuiet_nil ?_
  intro w3 hw3
  clear uc0 uc1 uc2 uc3 uc4 uc5 uo0 uo1 uo2 uo3 uo4 uo5 uo6 uo7 usy
  clear CG CH sy rt sa
  clear c0 c1 c2 c3 c4 c5 o0 o1 o2 o3 o4 o5 o6 o7
  have hz3 := hw3.size
  have e0 : w3.heap[w.heap.size]? = _ := (hw3.block _ (by omega)).trans d0
  have e1 : w3.heap[w.heap.size + 1]? = _ := (hw3.block _ (by omega)).trans d1
  have e2 : w3.heap[w.heap.size + 2]? = _ := (hw3.block _ (by omega)).trans d2
  have e3 : w3.heap[w.heap.size + 3]? = _ := (hw3.block _ (by omega)).trans d3
  have hb3 : Below w.heap.size w w3 := hb.trans (hw3.mono (by omega))
  clear d0 d1 d2 d3 hb hw3
  obtain ⟨c0, c1, c2, c3, c4, c5⟩ := cells6 e0
  obtain ⟨o0, o1, o2, o3, o4, o5, o6, o7⟩ := cells8 e1
  have r1 := ((unhide HI).below hb3).flds y hy
  have rf := ((unhide HI).below hb3).fld y f hy lf
  rw [hv] at rf
  have f0 : (0 : Int) ≤ (f : Int) := by omega
  have f1 : (f : Int) < ((S (G.sh (y + 1))).size : Int) := by omega
  clear hv
  go_upto_region 24 with fail
  have uc0 := Later.cell (block_lt c0) c0
  have uc1 := Later.cell (block_lt c1) c1
  have uc2 := Later.cell (block_lt c2) c2
  have uc3 := Later.cell (block_lt c3) c3
  have uc4 := Later.cell (block_lt c4) c4
  have uc5 := Later.cell (block_lt c5) c5
  have uo0 := Later.cell (block_lt o0) o0
  have uo1 := Later.cell (block_lt o1) o1
  have uo2 := Later.cell (block_lt o2) o2
  have uo3 := Later.cell (block_lt o3) o3
  have uo4 := Later.cell (block_lt o4) o4
  have uo5 := Later.cell (block_lt o5) o5
  have uo6 := Later.cell (block_lt o6) o6
  have uo7 := Later.cell (block_lt o7) o7
  have ur1 := Later.cell (block_lt r1) r1
  have urf := Later.cell (block_lt rf) rf
  refine wp_region_later w3 (by kernel_rfl) (by kernel_rfl) (by repeat (first | exact Below.refl _ _ | assumption | refine Below.alloc ?_ (by first | (simp; done) | (simp; omega) | omega) _ | refine Below.setCell ?_ (by first | (simp; done) | (simp; omega) | omega) _ | apply Below.drew | refine Below.trans ?_ (Below.mono (by assumption) (by first | (simp; done) | (simp; omega) | omega)))) ?_; (repeat (first | go_big_quiet_skip | (go_big_quiet_want; (first | ((fail); go_big_quiet_on; simp only [Act.put, List.setIfInBounds_toArray, List.set_cons_zero, List.set_cons_succ]) | (go_big_quiet_op; (first | go_big_quiet_on | go_big_quiet_call ((fail)))))))); refine wpQuiet_nil ?_
  intro w4 hw4
  clear uc0 uc1 uc2 uc3 uc4 uc5 uo0 uo1 uo2 uo3 uo4 uo5 uo6 uo7 ur1 urf
  clear r1 rf
  clear c0 c1 c2 c3 c4 c5 o0 o1 o2 o3 o4 o5 o6 o7
  have hz4 := hw4.size
  have f0 : w4.heap[w.heap.size]? = _ := (hw4.block _ (by omega)).trans e0
  have f1 : w4.heap[w.heap.size + 1]? = _ := (hw4.block _ (by omega)).trans e1
  have f2 : w4.heap[w.heap.size + 2]? = _ := (hw4.block _ (by omega)).trans e2
  have f3 : w4.heap[w.heap.size + 3]? = _ := (hw4.block _ (by omega)).trans e3
  have hb4 : Below w.heap.size w w4 := hb3.trans (hw4.mono (by omega))
  clear e0 e1 e2 e3 hb3 hw4
  obtain ⟨c0, c1, c2, c3, c4, c5⟩ := cells6 f0
  obtain ⟨o0, -, -, -, o4, -, o6, o7⟩ := cells8 f1
  have HS0 := fun W (hW : Below w4.heap.size w4 W) => rField_any (sp := sp) (A := A) (len := len) (cap := cap) ((unhide HI).below (hb4.trans (hW.mono (by omega)))) (by omega) o y f (z 7) hxy hy lf hm
  unfold rV at HS0
  go_wp2_with fail
  refine (HS0 _ (Below.refl _ _)).mono ?_
  rintro e w5 ⟨ρ', rfl, h3, hb3, hr3⟩
  clear HS0
  clear c0 c1 c2 c3 c4 c5 o0 o4 o6 o7
  have hz5 := hb3.size
  have j0 : w5.heap[w.heap.size]? = _ := (hb3.block _ (by omega)).trans f0
  have j1 : w5.heap[w.heap.size + 1]? = _ := (hb3.block _ (by omega)).trans f1
  have j2 : w5.heap[w.heap.size + 2]? = _ := (hb3.block _ (by omega)).trans f2
  have j3 : w5.heap[w.heap.size + 3]? = _ := (hb3.block _ (by omega)).trans f3
  obtain ⟨r0, r1, r2, r3, r4, r5⟩ := cells6 j2
  have fr := frz j2
  obtain ⟨q0, q1, q2⟩ := cells3 j3
  have fq := frz j3
  go_wp2
  refine bodyPost_ret (v := .tuple #[.agg #[.int .i64 (T : Int), .int .i64 sp, .slice A len cap, .slice (some ⟨ρ'.rb, 0, none⟩) T ρ'.rc, .slice (some ⟨ρ'.sb, 0, none⟩) G.n ρ'.sc, .slice (some ⟨ρ'.fb, 0, none⟩) G.n ρ'.fc], .agg #[.int .i64 0, .bool true, .int .i64 0]]) (by simp only [results, Try.results40]; go_simp) rfl ?_
  refine ⟨_, rfl, rdone (h3) (hb4.trans (hb3.mono (by omega))) ((unhide HI).lt hT0 hn0) (fun b hb' => by
    rcases hr3 b hb' with h | h
    · exact .inl h
    · exact .inr (by omega)) (w3 := w5) ?_ (by omega)⟩
  (repeat (first | (with_reducible exact Chg.refl _ _) | (with_reducible refine Chg.drew ?_) | (refine Chg.set ?_ (.inr (by first | rfl | exact .inl rfl | exact .inr rfl)) _)))

set_option maxRecDepth 100000 in
set_option maxHeartbeats 4000000 in
theorem rDo_2n (H : IsR T S w ρ G) (HS : ShOk w A len S) (hlen : len ≤ 9223372036854775807) (hSz : ∀ i, i < len → (S i).size ≤ 9223372036854775807) (hT0 : 1 ≤ T) (hT : T ≤ 8) (hn0 : 1 ≤ G.n) (hn : G.n ≤ 100000) (t : Nat) (ht : t < T) (z : Nat → Int) (h0 : opE len S z = 0) (hz : z 0 = 2) (a : Nat) (ha : z 1 = (a : Int)) (la : a < 6) (b : Nat) (hb : z 2 = (b : Int)) (lb : b < 6) (f : Nat) (hf : z 4 = (f : Int)) (o y : Nat) (hr : G.root t a = o) (hoy : o = y + 1) (hy : y < G.n) (lf : f < (S (G.sh (y + 1))).size) (hm : (S (G.sh (y + 1))).size ≤ 1000000) (hi : isE len S (G.sh (y + 1)) (z 4) (fldK (z 0)) = 0) (hv : G.fl (y + 1) f = 0) :
    Calls Try.prog 40 #[rV T sp A len cap ρ G.n, .int .i64 (t : Int), opV z] w (RDone T sp A len cap S w ρ G (G.slot t b 0) (.agg #[.int .i64 0, .bool false, .int .i64 0])) := by
  have HI := hide H
  have CO := hide (fun W (hW : Below w.heap.size w W) => refChk_any A len cap S hlen hSz z W (HS.keep hW))
  rw [h0] at CO
  simp only [opV, hz, ha, hb, hf] at CO
  have CF := hide (fun W => refField_any z W)
  have CI := hide (fun W (hW : Below w.heap.size w W) => refIs_any A len cap S hlen hSz (G.sh (y + 1)) (z 4) (fldK (z 0)) W (HS.keep hW))
  rw [hi] at CI
  simp only [opV, hz, ha, hb, hf] at CF CI
  generalize fldK 2 = K at CF CI
  clear hi
  unfold rV
  simp only [opV, hz, ha, hb, hf]
  clear H h0 hz ha hb hf
  go_enter Try.func40, Try.ntmps40
  go_upto_region 1 with fail
  refine wp_gen ?_
  intro w1 hw1
  obtain ⟨hB1, hz1, a0, a1, a2, a3⟩ := alloc4 hw1
  clear hw1
  obtain ⟨-, -, c2, -, -, -⟩ := cells6 a0
  obtain ⟨o0, o1, o2, o3, o4, o5, o6, o7⟩ := cells8 a1
  go_wp2_with fail
  refine (unhide CO _ hB1).mono ?_
  rintro e w2 ⟨rfl, hb2⟩
  clear c2 o0 o1 o2 o3 o4 o5 o6 o7 CO
  have hz2 := hb2.size
  have d0 : w2.heap[w.heap.size]? = _ := (hb2.block _ (by omega)).trans a0
  have d1 : w2.heap[w.heap.size + 1]? = _ := (hb2.block _ (by omega)).trans a1
  have d2 : w2.heap[w.heap.size + 2]? = _ := (hb2.block _ (by omega)).trans a2
  have d3 : w2.heap[w.heap.size + 3]? = _ := (hb2.block _ (by omega)).trans a3
  have hb : Below w.heap.size w w2 := hB1.trans (hb2.mono (by omega))
  clear a0 a1 a2 a3 hb2 hB1
  obtain ⟨c0, c1, c2, c3, c4, c5⟩ := cells6 d0
  obtain ⟨o0, o1, o2, o3, o4, o5, o6, o7⟩ := cells8 d1
  have Brt := (unhide HI).rows t ht
  have rt := ((unhide HI).below hb).rows t ht
  have t0 : (0 : Int) ≤ (t : Int) := by omega
  have t1 : (t : Int) < (T : Int) := by omega
  have Bsa := (unhide HI).root t a ht la
  have sa := ((unhide HI).below hb).root t a ht la
  have ga0 : (0 : Int) ≤ (a : Int) := by omega
  have ga1 : (a : Int) < 6 := by omega
  rw [hr] at sa Bsa
  have hxy : (o : Int) - 1 = (y : Int) := by omega
  have ho : ¬ (o : Int) = 0 := by omega
  have y0 : (0 : Int) ≤ (y : Int) := by omega
  have y1 : (y : Int) < (G.n : Int) := by omega
  have sy := ((unhide HI).below hb).shp y hy
  clear hr hoy Brt
  go_upto_region 21 with fail
  have uc0 := Later.cell (block_lt c0) c0
  have uc1 := Later.cell (block_lt c1) c1
  have uc2 := Later.cell (block_lt c2) c2
  have uc3 := Later.cell (block_lt c3) c3
  have uc4 := Later.cell (block_lt c4) c4
  have uc5 := Later.cell (block_lt c5) c5
  have uo0 := Later.cell (block_lt o0) o0
  have uo1 := Later.cell (block_lt o1) o1
  have uo2 := Later.cell (block_lt o2) o2
  have uo3 := Later.cell (block_lt o3) o3
  have uo4 := Later.cell (block_lt o4) o4
  have uo5 := Later.cell (block_lt o5) o5
  have uo6 := Later.cell (block_lt o6) o6
  have uo7 := Later.cell (block_lt o7) o7
  have usy := Later.cell (block_lt sy) sy
  have CG := hide (fun v : Later w2 => later_call (unhide CF v.val))
  have CH := hide (fun v : Later w2 => later_same (unhide CI v.val (hb.trans (v.ok.mono (by omega)))))
  clear CF CI
  refine wp_region_later w2 (by kernel_rfl) (by kernel_rfl) (by repeat (first | exact Below.refl _ _ | assumption | refine Below.alloc ?_ (by first | (simp; done) | (simp; omega) | omega) _ | refine Below.setCell ?_ (by first | (simp; done) | (simp; omega) | omega) _ | apply Below.drew | refine Below.trans ?_ (Below.mono (by assumption) (by first | (simp; done) | (simp; omega) | omega)))) ?_; (repeat (first | go_big_quiet_skip | (go_big_quiet_want; (first | ((fail); go_big_quiet_on; simp only [Act.put, List.setIfInBounds_toArray, List.set_cons_zero, List.set_cons_succ]) | (go_big_quiet_op; (first | go_big_quiet_on | go_big_quiet_call ((first | (go_at_call 72; exact unhide CG _) | (go_at_call 71; exact unhide CH _))))))))); refine wpQuiet_nil ?_
  intro w3 hw3
  clear uc0 uc1 uc2 uc3 uc4 uc5 uo0 uo1 uo2 uo3 uo4 uo5 uo6 uo7 usy
  clear CG CH sy rt sa
  clear c0 c1 c2 c3 c4 c5 o0 o1 o2 o3 o4 o5 o6 o7
  have hz3 := hw3.size
  have e0 : w3.heap[w.heap.size]? = _ := (hw3.block _ (by omega)).trans d0
  have e1 : w3.heap[w.heap.size + 1]? = _ := (hw3.block _ (by omega)).trans d1
  have e2 : w3.heap[w.heap.size + 2]? = _ := (hw3.block _ (by omega)).trans d2
  have e3 : w3.heap[w.heap.size + 3]? = _ := (hw3.block _ (by omega)).trans d3
  have hb3 : Below w.heap.size w w3 := hb.trans (hw3.mono (by omega))
  clear d0 d1 d2 d3 hb hw3
  obtain ⟨c0, c1, c2, c3, c4, c5⟩ := cells6 e0
  obtain ⟨o0, o1, o2, o3, o4, o5, o6, o7⟩ := cells8 e1
  have r1 := ((unhide HI).below hb3).flds y hy
  have rf := ((unhide HI).below hb3).fld y f hy lf
  rw [hv] at rf
  have f0 : (0 : Int) ≤ (f : Int) := by omega
  have f1 : (f : Int) < ((S (G.sh (y + 1))).size : Int) := by omega
  clear hv
  go_upto_region 24 with fail
  have uc0 := Later.cell (block_lt c0) c0
  have uc1 := Later.cell (block_lt c1) c1
  have uc2 := Later.cell (block_lt c2) c2
  have uc3 := Later.cell (block_lt c3) c3
  have uc4 := Later.cell (block_lt c4) c4
  have uc5 := Later.cell (block_lt c5) c5
  have uo0 := Later.cell (block_lt o0) o0
  have uo1 := Later.cell (block_lt o1) o1
  have uo2 := Later.cell (block_lt o2) o2
  have uo3 := Later.cell (block_lt o3) o3
  have uo4 := Later.cell (block_lt o4) o4
  have uo5 := Later.cell (block_lt o5) o5
  have uo6 := Later.cell (block_lt o6) o6
  have uo7 := Later.cell (block_lt o7) o7
  have ur1 := Later.cell (block_lt r1) r1
  have urf := Later.cell (block_lt rf) rf
  refine wp_region_later w3 (by kernel_rfl) (by kernel_rfl) (by repeat (first | exact Below.refl _ _ | assumption | refine Below.alloc ?_ (by first | (simp; done) | (simp; omega) | omega) _ | refine Below.setCell ?_ (by first | (simp; done) | (simp; omega) | omega) _ | apply Below.drew | refine Below.trans ?_ (Below.mono (by assumption) (by first | (simp; done) | (simp; omega) | omega)))) ?_; (repeat (first | go_big_quiet_skip | (go_big_quiet_want; (first | ((fail); go_big_quiet_on; simp only [Act.put, List.setIfInBounds_toArray, List.set_cons_zero, List.set_cons_succ]) | (go_big_quiet_op; (first | go_big_quiet_on | go_big_quiet_call ((fail)))))))); refine wpQuiet_nil ?_
  intro w4 hw4
  clear uc0 uc1 uc2 uc3 uc4 uc5 uo0 uo1 uo2 uo3 uo4 uo5 uo6 uo7 ur1 urf
  clear r1 rf
  clear c0 c1 c2 c3 c4 c5 o0 o1 o2 o3 o4 o5 o6 o7
  have hz4 := hw4.size
  have f0 : w4.heap[w.heap.size]? = _ := (hw4.block _ (by omega)).trans e0
  have f1 : w4.heap[w.heap.size + 1]? = _ := (hw4.block _ (by omega)).trans e1
  have f2 : w4.heap[w.heap.size + 2]? = _ := (hw4.block _ (by omega)).trans e2
  have f3 : w4.heap[w.heap.size + 3]? = _ := (hw4.block _ (by omega)).trans e3
  have hb4 : Below w.heap.size w w4 := hb3.trans (hw4.mono (by omega))
  clear e0 e1 e2 e3 hb3 hw4
  obtain ⟨c0, c1, c2, c3, c4, c5⟩ := cells6 f0
  obtain ⟨o0, -, o2, -, -, -, -, -⟩ := cells8 f1
  have HS0 := fun W (hW : Below w4.heap.size w4 W) => rSlot_any (sp := sp) (A := A) (len := len) (cap := cap) ((unhide HI).below (hb4.trans (hW.mono (by omega)))) hT t b 0 ht lb
  unfold rV at HS0
  rw [show ((0 : Nat) : Int) = 0 from rfl] at HS0
  go_wp2_with fail
  refine (HS0 _ (Below.refl _ _)).mono ?_
  rintro e w5 ⟨ρ', rfl, h3, hb3, hr3⟩
  clear HS0
  clear c0 c1 c2 c3 c4 c5 o0 o2
  have hz5 := hb3.size
  have j0 : w5.heap[w.heap.size]? = _ := (hb3.block _ (by omega)).trans f0
  have j1 : w5.heap[w.heap.size + 1]? = _ := (hb3.block _ (by omega)).trans f1
  have j2 : w5.heap[w.heap.size + 2]? = _ := (hb3.block _ (by omega)).trans f2
  have j3 : w5.heap[w.heap.size + 3]? = _ := (hb3.block _ (by omega)).trans f3
  obtain ⟨r0, r1, r2, r3, r4, r5⟩ := cells6 j2
  have fr := frz j2
  obtain ⟨q0, q1, q2⟩ := cells3 j3
  have fq := frz j3
  go_wp2
  refine bodyPost_ret (v := .tuple #[.agg #[.int .i64 (T : Int), .int .i64 sp, .slice A len cap, .slice (some ⟨ρ'.rb, 0, none⟩) T ρ'.rc, .slice (some ⟨ρ'.sb, 0, none⟩) G.n ρ'.sc, .slice (some ⟨ρ'.fb, 0, none⟩) G.n ρ'.fc], .agg #[.int .i64 0, .bool false, .int .i64 0]]) (by simp only [results, Try.results40]; go_simp) rfl ?_
  refine ⟨_, rfl, rdone (h3) (hb4.trans (hb3.mono (by omega))) ((unhide HI).lt hT0 hn0) (fun b hb' => by
    rcases hr3 b hb' with h | h
    · exact .inl h
    · exact .inr (by omega)) (w3 := w5) ?_ (by omega)⟩
  (repeat (first | (with_reducible exact Chg.refl _ _) | (with_reducible refine Chg.drew ?_) | (refine Chg.set ?_ (.inr (by first | rfl | exact .inl rfl | exact .inr rfl)) _)))

set_option maxRecDepth 100000 in
set_option maxHeartbeats 4000000 in
theorem rDo_2y (H : IsR T S w ρ G) (HS : ShOk w A len S) (hlen : len ≤ 9223372036854775807) (hSz : ∀ i, i < len → (S i).size ≤ 9223372036854775807) (hT0 : 1 ≤ T) (hT : T ≤ 8) (hn0 : 1 ≤ G.n) (hn : G.n ≤ 100000) (t : Nat) (ht : t < T) (z : Nat → Int) (h0 : opE len S z = 0) (hz : z 0 = 2) (a : Nat) (ha : z 1 = (a : Int)) (la : a < 6) (b : Nat) (hb : z 2 = (b : Int)) (lb : b < 6) (f : Nat) (hf : z 4 = (f : Int)) (o y : Nat) (hr : G.root t a = o) (hoy : o = y + 1) (hy : y < G.n) (lf : f < (S (G.sh (y + 1))).size) (hm : (S (G.sh (y + 1))).size ≤ 1000000) (hi : isE len S (G.sh (y + 1)) (z 4) (fldK (z 0)) = 0) (v : Nat) (hv : G.fl (y + 1) f = (v : Int)) (hq : ¬ v = 0) :
    Calls Try.prog 40 #[rV T sp A len cap ρ G.n, .int .i64 (t : Int), opV z] w (RDone T sp A len cap S w ρ G (G.slot t b v) (.agg #[.int .i64 0, .bool true, .int .i64 0])) := by
  have HI := hide H
  have CO := hide (fun W (hW : Below w.heap.size w W) => refChk_any A len cap S hlen hSz z W (HS.keep hW))
  rw [h0] at CO
  simp only [opV, hz, ha, hb, hf] at CO
  have CF := hide (fun W => refField_any z W)
  have CI := hide (fun W (hW : Below w.heap.size w W) => refIs_any A len cap S hlen hSz (G.sh (y + 1)) (z 4) (fldK (z 0)) W (HS.keep hW))
  rw [hi] at CI
  simp only [opV, hz, ha, hb, hf] at CF CI
  generalize fldK 2 = K at CF CI
  clear hi
  unfold rV
  simp only [opV, hz, ha, hb, hf]
  clear H h0 hz ha hb hf
  go_enter Try.func40, Try.ntmps40
  go_upto_region 1 with fail
  refine wp_gen ?_
  intro w1 hw1
  obtain ⟨hB1, hz1, a0, a1, a2, a3⟩ := alloc4 hw1
  clear hw1
  obtain ⟨-, -, c2, -, -, -⟩ := cells6 a0
  obtain ⟨o0, o1, o2, o3, o4, o5, o6, o7⟩ := cells8 a1
  go_wp2_with fail
  refine (unhide CO _ hB1).mono ?_
  rintro e w2 ⟨rfl, hb2⟩
  clear c2 o0 o1 o2 o3 o4 o5 o6 o7 CO
  have hz2 := hb2.size
  have d0 : w2.heap[w.heap.size]? = _ := (hb2.block _ (by omega)).trans a0
  have d1 : w2.heap[w.heap.size + 1]? = _ := (hb2.block _ (by omega)).trans a1
  have d2 : w2.heap[w.heap.size + 2]? = _ := (hb2.block _ (by omega)).trans a2
  have d3 : w2.heap[w.heap.size + 3]? = _ := (hb2.block _ (by omega)).trans a3
  have hb : Below w.heap.size w w2 := hB1.trans (hb2.mono (by omega))
  clear a0 a1 a2 a3 hb2 hB1
  obtain ⟨c0, c1, c2, c3, c4, c5⟩ := cells6 d0
  obtain ⟨o0, o1, o2, o3, o4, o5, o6, o7⟩ := cells8 d1
  have Brt := (unhide HI).rows t ht
  have rt := ((unhide HI).below hb).rows t ht
  have t0 : (0 : Int) ≤ (t : Int) := by omega
  have t1 : (t : Int) < (T : Int) := by omega
  have Bsa := (unhide HI).root t a ht la
  have sa := ((unhide HI).below hb).root t a ht la
  have ga0 : (0 : Int) ≤ (a : Int) := by omega
  have ga1 : (a : Int) < 6 := by omega
  rw [hr] at sa Bsa
  have hxy : (o : Int) - 1 = (y : Int) := by omega
  have ho : ¬ (o : Int) = 0 := by omega
  have y0 : (0 : Int) ≤ (y : Int) := by omega
  have y1 : (y : Int) < (G.n : Int) := by omega
  have sy := ((unhide HI).below hb).shp y hy
  clear hr hoy Brt
  go_upto_region 21 with fail
  have uc0 := Later.cell (block_lt c0) c0
  have uc1 := Later.cell (block_lt c1) c1
  have uc2 := Later.cell (block_lt c2) c2
  have uc3 := Later.cell (block_lt c3) c3
  have uc4 := Later.cell (block_lt c4) c4
  have uc5 := Later.cell (block_lt c5) c5
  have uo0 := Later.cell (block_lt o0) o0
  have uo1 := Later.cell (block_lt o1) o1
  have uo2 := Later.cell (block_lt o2) o2
  have uo3 := Later.cell (block_lt o3) o3
  have uo4 := Later.cell (block_lt o4) o4
  have uo5 := Later.cell (block_lt o5) o5
  have uo6 := Later.cell (block_lt o6) o6
  have uo7 := Later.cell (block_lt o7) o7
  have usy := Later.cell (block_lt sy) sy
  have CG := hide (fun v : Later w2 => later_call (unhide CF v.val))
  have CH := hide (fun v : Later w2 => later_same (unhide CI v.val (hb.trans (v.ok.mono (by omega)))))
  clear CF CI
  refine wp_region_later w2 (by kernel_rfl) (by kernel_rfl) (by repeat (first | exact Below.refl _ _ | assumption | refine Below.alloc ?_ (by first | (simp; done) | (simp; omega) | omega) _ | refine Below.setCell ?_ (by first | (simp; done) | (simp; omega) | omega) _ | apply Below.drew | refine Below.trans ?_ (Below.mono (by assumption) (by first | (simp; done) | (simp; omega) | omega)))) ?_; (repeat (first | go_big_quiet_skip | (go_big_quiet_want; (first | ((fail); go_big_quiet_on; simp only [Act.put, List.setIfInBounds_toArray, List.set_cons_zero, List.set_cons_succ]) | (go_big_quiet_op; (first | go_big_quiet_on | go_big_quiet_call ((first | (go_at_call 72; exact unhide CG _) | (go_at_call 71; exact unhide CH _))))))))); refine wpQuiet_nil ?_
  intro w3 hw3
  clear uc0 uc1 uc2 uc3 uc4 uc5 uo0 uo1 uo2 uo3 uo4 uo5 uo6 uo7 usy
  clear CG CH sy rt sa
  clear c0 c1 c2 c3 c4 c5 o0 o1 o2 o3 o4 o5 o6 o7
  have hz3 := hw3.size
  have e0 : w3.heap[w.heap.size]? = _ := (hw3.block _ (by omega)).trans d0
  have e1 : w3.heap[w.heap.size + 1]? = _ := (hw3.block _ (by omega)).trans d1
  have e2 : w3.heap[w.heap.size + 2]? = _ := (hw3.block _ (by omega)).trans d2
  have e3 : w3.heap[w.heap.size + 3]? = _ := (hw3.block _ (by omega)).trans d3
  have hb3 : Below w.heap.size w w3 := hb.trans (hw3.mono (by omega))
  clear d0 d1 d2 d3 hb hw3
  obtain ⟨c0, c1, c2, c3, c4, c5⟩ := cells6 e0
  obtain ⟨o0, o1, o2, o3, o4, o5, o6, o7⟩ := cells8 e1
  have r1 := ((unhide HI).below hb3).flds y hy
  have rf := ((unhide HI).below hb3).fld y f hy lf
  rw [hv] at rf
  have f0 : (0 : Int) ≤ (f : Int) := by omega
  have f1 : (f : Int) < ((S (G.sh (y + 1))).size : Int) := by omega
  clear hv
  go_upto_region 24 with fail
  have uc0 := Later.cell (block_lt c0) c0
  have uc1 := Later.cell (block_lt c1) c1
  have uc2 := Later.cell (block_lt c2) c2
  have uc3 := Later.cell (block_lt c3) c3
  have uc4 := Later.cell (block_lt c4) c4
  have uc5 := Later.cell (block_lt c5) c5
  have uo0 := Later.cell (block_lt o0) o0
  have uo1 := Later.cell (block_lt o1) o1
  have uo2 := Later.cell (block_lt o2) o2
  have uo3 := Later.cell (block_lt o3) o3
  have uo4 := Later.cell (block_lt o4) o4
  have uo5 := Later.cell (block_lt o5) o5
  have uo6 := Later.cell (block_lt o6) o6
  have uo7 := Later.cell (block_lt o7) o7
  have ur1 := Later.cell (block_lt r1) r1
  have urf := Later.cell (block_lt rf) rf
  refine wp_region_later w3 (by kernel_rfl) (by kernel_rfl) (by repeat (first | exact Below.refl _ _ | assumption | refine Below.alloc ?_ (by first | (simp; done) | (simp; omega) | omega) _ | refine Below.setCell ?_ (by first | (simp; done) | (simp; omega) | omega) _ | apply Below.drew | refine Below.trans ?_ (Below.mono (by assumption) (by first | (simp; done) | (simp; omega) | omega)))) ?_; (repeat (first | go_big_quiet_skip | (go_big_quiet_want; (first | ((fail); go_big_quiet_on; simp only [Act.put, List.setIfInBounds_toArray, List.set_cons_zero, List.set_cons_succ]) | (go_big_quiet_op; (first | go_big_quiet_on | go_big_quiet_call ((fail)))))))); refine wpQuiet_nil ?_
  intro w4 hw4
  clear uc0 uc1 uc2 uc3 uc4 uc5 uo0 uo1 uo2 uo3 uo4 uo5 uo6 uo7 ur1 urf
  clear r1 rf
  clear c0 c1 c2 c3 c4 c5 o0 o1 o2 o3 o4 o5 o6 o7
  have hz4 := hw4.size
  have f0 : w4.heap[w.heap.size]? = _ := (hw4.block _ (by omega)).trans e0
  have f1 : w4.heap[w.heap.size + 1]? = _ := (hw4.block _ (by omega)).trans e1
  have f2 : w4.heap[w.heap.size + 2]? = _ := (hw4.block _ (by omega)).trans e2
  have f3 : w4.heap[w.heap.size + 3]? = _ := (hw4.block _ (by omega)).trans e3
  have hb4 : Below w.heap.size w w4 := hb3.trans (hw4.mono (by omega))
  clear e0 e1 e2 e3 hb3 hw4
  obtain ⟨c0, c1, c2, c3, c4, c5⟩ := cells6 f0
  obtain ⟨o0, -, o2, -, -, -, -, -⟩ := cells8 f1
  have hq : ¬ (v : Int) = 0 := by omega
  have HS0 := fun W (hW : Below w4.heap.size w4 W) => rSlot_any (sp := sp) (A := A) (len := len) (cap := cap) ((unhide HI).below (hb4.trans (hW.mono (by omega)))) hT t b v ht lb
  unfold rV at HS0
  go_wp2_with fail
  refine (HS0 _ (Below.refl _ _)).mono ?_
  rintro e w5 ⟨ρ', rfl, h3, hb3, hr3⟩
  clear HS0
  clear c0 c1 c2 c3 c4 c5 o0 o2
  have hz5 := hb3.size
  have j0 : w5.heap[w.heap.size]? = _ := (hb3.block _ (by omega)).trans f0
  have j1 : w5.heap[w.heap.size + 1]? = _ := (hb3.block _ (by omega)).trans f1
  have j2 : w5.heap[w.heap.size + 2]? = _ := (hb3.block _ (by omega)).trans f2
  have j3 : w5.heap[w.heap.size + 3]? = _ := (hb3.block _ (by omega)).trans f3
  obtain ⟨r0, r1, r2, r3, r4, r5⟩ := cells6 j2
  have fr := frz j2
  obtain ⟨q0, q1, q2⟩ := cells3 j3
  have fq := frz j3
  go_wp2
  refine bodyPost_ret (v := .tuple #[.agg #[.int .i64 (T : Int), .int .i64 sp, .slice A len cap, .slice (some ⟨ρ'.rb, 0, none⟩) T ρ'.rc, .slice (some ⟨ρ'.sb, 0, none⟩) G.n ρ'.sc, .slice (some ⟨ρ'.fb, 0, none⟩) G.n ρ'.fc], .agg #[.int .i64 0, .bool true, .int .i64 0]]) (by simp only [results, Try.results40]; go_simp) rfl ?_
  refine ⟨_, rfl, rdone (h3) (hb4.trans (hb3.mono (by omega))) ((unhide HI).lt hT0 hn0) (fun b hb' => by
    rcases hr3 b hb' with h | h
    · exact .inl h
    · exact .inr (by omega)) (w3 := w5) ?_ (by omega)⟩
  (repeat (first | (with_reducible exact Chg.refl _ _) | (with_reducible refine Chg.drew ?_) | (refine Chg.set ?_ (.inr (by first | rfl | exact .inl rfl | exact .inr rfl)) _)))
end
end Go.Proofs.Ytbkaopeajjechaa

namespace Go.Proofs.Ytbkaopeajjechaa
set_option linter.unusedVariables false
set_option linter.unusedSimpArgs false
open Go.RowKit Go.Maps
section
variable {T : Nat} {sp : Int} {A : Option Addr} {len cap : Nat} {S : Nat → ByteArray} {w : World} {ρ : RLay} {G : Gr}

set_option maxRecDepth 100000 in
set_option maxHeartbeats 4000000 in
theorem rDo_3 (H : IsR T S w ρ G) (HS : ShOk w A len S) (hlen : len ≤ 9223372036854775807) (hSz : ∀ i, i < len → (S i).size ≤ 9223372036854775807) (hT0 : 1 ≤ T) (hT : T ≤ 8) (hn0 : 1 ≤ G.n) (hn : G.n ≤ 100000) (t : Nat) (ht : t < T) (z : Nat → Int) (h0 : opE len S z = 0) (hz : z 0 = 3) (a : Nat) (ha : z 1 = (a : Int)) (la : a < 6) (b : Nat) (hb : z 2 = (b : Int)) (lb : b < 6) (f : Nat) (hf : z 4 = (f : Int)) (o y : Nat) (hr : G.root t a = o) (hoy : o = y + 1) (hy : y < G.n) (lf : f < (S (G.sh (y + 1))).size) (hm : (S (G.sh (y + 1))).size ≤ 1000000) (hi : isE len S (G.sh (y + 1)) (z 4) (fldK (z 0)) = 0) (v : Int) (hv : G.fl (y + 1) f = v) :
    Calls Try.prog 40 #[rV T sp A len cap ρ G.n, .int .i64 (t : Int), opV z] w (RDone T sp A len cap S w ρ G (G.field (y + 1) f (G.root t b)) (.agg #[.int .i64 0, .bool false, .int .i64 0])) := by
  have HI := hide H
  have CO := hide (fun W (hW : Below w.heap.size w W) => refChk_any A len cap S hlen hSz z W (HS.keep hW))
  rw [h0] at CO
  simp only [opV, hz, ha, hb, hf] at CO
  have CF := hide (fun W => refField_any z W)
  have CI := hide (fun W (hW : Below w.heap.size w W) => refIs_any A len cap S hlen hSz (G.sh (y + 1)) (z 4) (fldK (z 0)) W (HS.keep hW))
  rw [hi] at CI
  simp only [opV, hz, ha, hb, hf] at CF CI
  generalize fldK 3 = K at CF CI
  clear hi
  unfold rV
  simp only [opV, hz, ha, hb, hf]
  clear H h0 hz ha hb hf
  go_enter Try.func40, Try.ntmps40
  go_upto_region 1 with fail
  refine wp_gen ?_
  intro w1 hw1
  obtain ⟨hB1, hz1, a0, a1, a2, a3⟩ := alloc4 hw1
  clear hw1
  obtain ⟨-, -, c2, -, -, -⟩ := cells6 a0
  obtain ⟨o0, o1, o2, o3, o4, o5, o6, o7⟩ := cells8 a1
  go_wp2_with fail
  refine (unhide CO _ hB1).mono ?_
  rintro e w2 ⟨rfl, hb2⟩
  clear c2 o0 o1 o2 o3 o4 o5 o6 o7 CO
  have hz2 := hb2.size
  have d0 : w2.heap[w.heap.size]? = _ := (hb2.block _ (by omega)).trans a0
  have d1 : w2.heap[w.heap.size + 1]? = _ := (hb2.block _ (by omega)).trans a1
  have d2 : w2.heap[w.heap.size + 2]? = _ := (hb2.block _ (by omega)).trans a2
  have d3 : w2.heap[w.heap.size + 3]? = _ := (hb2.block _ (by omega)).trans a3
  have hb : Below w.heap.size w w2 := hB1.trans (hb2.mono (by omega))
  clear a0 a1 a2 a3 hb2 hB1
  obtain ⟨c0, c1, c2, c3, c4, c5⟩ := cells6 d0
  obtain ⟨o0, o1, o2, o3, o4, o5, o6, o7⟩ := cells8 d1
  have Brt := (unhide HI).rows t ht
  have rt := ((unhide HI).below hb).rows t ht
  have t0 : (0 : Int) ≤ (t : Int) := by omega
  have t1 : (t : Int) < (T : Int) := by omega
  have Bsa := (unhide HI).root t a ht la
  have sa := ((unhide HI).below hb).root t a ht la
  have ga0 : (0 : Int) ≤ (a : Int) := by omega
  have ga1 : (a : Int) < 6 := by omega
  rw [hr] at sa Bsa
  have hxy : (o : Int) - 1 = (y : Int) := by omega
  have ho : ¬ (o : Int) = 0 := by omega
  have y0 : (0 : Int) ≤ (y : Int) := by omega
  have y1 : (y : Int) < (G.n : Int) := by omega
  have sy := ((unhide HI).below hb).shp y hy
  clear hr hoy Brt
  go_upto_region 21 with fail
  have uc0 := Later.cell (block_lt c0) c0
  have uc1 := Later.cell (block_lt c1) c1
  have uc2 := Later.cell (block_lt c2) c2
  have uc3 := Later.cell (block_lt c3) c3
  have uc4 := Later.cell (block_lt c4) c4
  have uc5 := Later.cell (block_lt c5) c5
  have uo0 := Later.cell (block_lt o0) o0
  have uo1 := Later.cell (block_lt o1) o1
  have uo2 := Later.cell (block_lt o2) o2
  have uo3 := Later.cell (block_lt o3) o3
  have uo4 := Later.cell (block_lt o4) o4
  have uo5 := Later.cell (block_lt o5) o5
  have uo6 := Later.cell (block_lt o6) o6
  have uo7 := Later.cell (block_lt o7) o7
  have usy := Later.cell (block_lt sy) sy
  have CG := hide (fun v : Later w2 => later_call (unhide CF v.val))
  have CH := hide (fun v : Later w2 => later_same (unhide CI v.val (hb.trans (v.ok.mono (by omega)))))
  clear CF CI
  refine wp_region_later w2 (by kernel_rfl) (by kernel_rfl) (by repeat (first | exact Below.refl _ _ | assumption | refine Below.alloc ?_ (by first | (simp; done) | (simp; omega) | omega) _ | refine Below.setCell ?_ (by first | (simp; done) | (simp; omega) | omega) _ | apply Below.drew | refine Below.trans ?_ (Below.mono (by assumption) (by first | (simp; done) | (simp; omega) | omega)))) ?_; (repeat (first | go_big_quiet_skip | (go_big_quiet_want; (first | ((fail); go_big_quiet_on; simp only [Act.put, List.setIfInBounds_toArray, List.set_cons_zero, List.set_cons_succ]) | (go_big_quiet_op; (first | go_big_quiet_on | go_big_quiet_call ((first | (go_at_call 72; exact unhide CG _) | (go_at_call 71; exact unhide CH _))))))))); refine wpQuiet_nil ?_
  intro w3 hw3
  clear uc0 uc1 uc2 uc3 uc4 uc5 uo0 uo1 uo2 uo3 uo4 uo5 uo6 uo7 usy
  clear CG CH sy rt sa
  clear c0 c1 c2 c3 c4 c5 o0 o1 o2 o3 o4 o5 o6 o7
  have hz3 := hw3.size
  have e0 : w3.heap[w.heap.size]? = _ := (hw3.block _ (by omega)).trans d0
  have e1 : w3.heap[w.heap.size + 1]? = _ := (hw3.block _ (by omega)).trans d1
  have e2 : w3.heap[w.heap.size + 2]? = _ := (hw3.block _ (by omega)).trans d2
  have e3 : w3.heap[w.heap.size + 3]? = _ := (hw3.block _ (by omega)).trans d3
  have hb3 : Below w.heap.size w w3 := hb.trans (hw3.mono (by omega))
  clear d0 d1 d2 d3 hb hw3
  obtain ⟨c0, c1, c2, c3, c4, c5⟩ := cells6 e0
  obtain ⟨o0, o1, o2, o3, o4, o5, o6, o7⟩ := cells8 e1
  have r1 := ((unhide HI).below hb3).flds y hy
  have rf := ((unhide HI).below hb3).fld y f hy lf
  rw [hv] at rf
  have f0 : (0 : Int) ≤ (f : Int) := by omega
  have f1 : (f : Int) < ((S (G.sh (y + 1))).size : Int) := by omega
  clear hv
  go_upto_region 24 with fail
  have uc0 := Later.cell (block_lt c0) c0
  have uc1 := Later.cell (block_lt c1) c1
  have uc2 := Later.cell (block_lt c2) c2
  have uc3 := Later.cell (block_lt c3) c3
  have uc4 := Later.cell (block_lt c4) c4
  have uc5 := Later.cell (block_lt c5) c5
  have uo0 := Later.cell (block_lt o0) o0
  have uo1 := Later.cell (block_lt o1) o1
  have uo2 := Later.cell (block_lt o2) o2
  have uo3 := Later.cell (block_lt o3) o3
  have uo4 := Later.cell (block_lt o4) o4
  have uo5 := Later.cell (block_lt o5) o5
  have uo6 := Later.cell (block_lt o6) o6
  have uo7 := Later.cell (block_lt o7) o7
  have ur1 := Later.cell (block_lt r1) r1
  have urf := Later.cell (block_lt rf) rf
  refine wp_region_later w3 (by kernel_rfl) (by kernel_rfl) (by repeat (first | exact Below.refl _ _ | assumption | refine Below.alloc ?_ (by first | (simp; done) | (simp; omega) | omega) _ | refine Below.setCell ?_ (by first | (simp; done) | (simp; omega) | omega) _ | apply Below.drew | refine Below.trans ?_ (Below.mono (by assumption) (by first | (simp; done) | (simp; omega) | omega)))) ?_; (repeat (first | go_big_quiet_skip | (go_big_quiet_want; (first | ((fail); go_big_quiet_on; simp only [Act.put, List.setIfInBounds_toArray, List.set_cons_zero, List.set_cons_succ]) | (go_big_quiet_op; (first | go_big_quiet_on | go_big_quiet_call ((fail)))))))); refine wpQuiet_nil ?_
  intro w4 hw4
  clear uc0 uc1 uc2 uc3 uc4 uc5 uo0 uo1 uo2 uo3 uo4 uo5 uo6 uo7 ur1 urf
  clear r1 rf
  clear c0 c1 c2 c3 c4 c5 o0 o1 o2 o3 o4 o5 o6 o7
  have hz4 := hw4.size
  have f0 : w4.heap[w.heap.size]? = _ := (hw4.block _ (by omega)).trans e0
  have f1 : w4.heap[w.heap.size + 1]? = _ := (hw4.block _ (by omega)).trans e1
  have f2 : w4.heap[w.heap.size + 2]? = _ := (hw4.block _ (by omega)).trans e2
  have f3 : w4.heap[w.heap.size + 3]? = _ := (hw4.block _ (by omega)).trans e3
  have hb4 : Below w.heap.size w w4 := hb3.trans (hw4.mono (by omega))
  clear e0 e1 e2 e3 hb3 hw4
  obtain ⟨c0, c1, c2, c3, c4, c5⟩ := cells6 f0
  obtain ⟨o0, -, o2, -, o4, -, -, -⟩ := cells8 f1
  obtain ⟨r0, r1, r2, r3, r4, r5⟩ := cells6 f2
  have fr := frz f2
  obtain ⟨q0, q1, q2⟩ := cells3 f3
  have fq := frz f3
  have Bsb := (unhide HI).root t b ht lb
  have sb := ((unhide HI).below hb4).root t b ht lb
  have gb0 : (0 : Int) ≤ (b : Int) := by omega
  have gb1 : (b : Int) < 6 := by omega
  generalize G.root t b = rb at *
  have HS0 := fun W (hW : Below w4.heap.size w4 W) => rField_any (sp := sp) (A := A) (len := len) (cap := cap) ((unhide HI).below (hb4.trans (hW.mono (by omega)))) (by omega) o y f (rb) hxy hy lf hm
  unfold rV at HS0
  go_upto_region 29 with fail
  have uc0 := chd1 (n := w.heap.size + 2) (by omega) c0
  have uc1 := chd1 (n := w.heap.size + 2) (by omega) c1
  have uc2 := chd1 (n := w.heap.size + 2) (by omega) c2
  have uc3 := chd1 (n := w.heap.size + 2) (by omega) c3
  have uc4 := chd1 (n := w.heap.size + 2) (by omega) c4
  have uc5 := chd1 (n := w.heap.size + 2) (by omega) c5
  have uo0 := chd1 (n := w.heap.size + 2) (by omega) o0
  have uo2 := chd1 (n := w.heap.size + 2) (by omega) o2
  have uo4 := chd1 (n := w.heap.size + 2) (by omega) o4
  have usb := chd1 (n := w.heap.size + 2) (Nat.ne_of_lt (Nat.lt_of_lt_of_le (block_lt Bsb) (by omega))) sb
  refine wp_region_side_chd [0, 0, 0, 0, 0, 0, 0, 0, 0, 1, 0, 1, 2] 12 (fun c => c = w.heap.size + 2) w4 (by kernel_rfl) (by kernel_rfl) ((Chg.refl _ _).drew) ?_; simp only [kblk, List.map_cons, List.map_nil, Nat.reduceBNe, diesOps_f, diesOps_t, diesOps_nil, bne_self_eq_false]; (repeat (first | go_big_quiet_skip | (go_big_quiet_want; (first | ((fail); go_big_quiet_on; simp only [Act.put, List.setIfInBounds_toArray, List.set_cons_zero, List.set_cons_succ]) | (go_big_quiet_op; (first | go_big_quiet_on | go_big_quiet_call ((fail)))))))); refine wpQuiet_nil ?_; rw [show sideIdx [0, 0, 0, 0, 0, 0, 0, 0, 0, 1, 0, 1, 2] 12 = [9, 11] from by decide]; simp only [List.filterMap_cons, List.filterMap_nil, List.getElem?_cons_zero, List.getElem?_cons_succ]; (try simp only [applyP, List.nil_append, List.cons_append, List.foldl_cons, List.foldl_nil, Act.put, List.setIfInBounds_toArray, List.set_cons_zero, List.set_cons_succ]); unfold sideWp Oper.wpV; (try simp only [applyP, List.nil_append, List.cons_append, List.foldl_cons, List.foldl_nil, Act.put, List.setIfInBounds_toArray, List.set_cons_zero, List.set_cons_succ]); go_simp
  refine (HS0 _ ((Below.refl _ _).drew)).mono ?_
  rintro e w5 ⟨ρ', rfl, h3, hb3, hr3⟩
  have hb3 : Below w4.heap.size w4 w5 := ((Below.refl _ w4).drew).trans (hb3.mono (Nat.le_refl _))
  have hr3 : ∀ b, RBlk T S ρ' _ b → RBlk T S ρ G b ∨ w4.heap.size ≤ b := hr3
  refine ⟨_, rfl, Chg.of hb3, ?_⟩
  clear HS0 sb Bsb usb
  clear c0 c1 c2 c3 c4 c5 o0 o2 o4
  have hz5 := hb3.size
  have j0 : w5.heap[w.heap.size]? = _ := (hb3.block _ (by omega)).trans f0
  have j1 : w5.heap[w.heap.size + 1]? = _ := (hb3.block _ (by omega)).trans f1
  have j2 : w5.heap[w.heap.size + 2]? = _ := (hb3.block _ (by omega)).trans f2
  have j3 : w5.heap[w.heap.size + 3]? = _ := (hb3.block _ (by omega)).trans f3
  obtain ⟨r0, r1, r2, r3, r4, r5⟩ := cells6 j2
  have fr := frz j2
  obtain ⟨q0, q1, q2⟩ := cells3 j3
  have fq := frz j3
  (try simp only [applyP, List.nil_append, List.cons_append, List.foldl_cons, List.foldl_nil, Act.put, List.setIfInBounds_toArray, List.set_cons_zero, List.set_cons_succ]); unfold sideWp Oper.wpV; (try simp only [applyP, List.nil_append, List.cons_append, List.foldl_cons, List.foldl_nil, Act.put, List.setIfInBounds_toArray, List.set_cons_zero, List.set_cons_succ]); go_simp
  refine ⟨(Chg.of hb3).trans (by (repeat (first | (with_reducible exact Chg.refl _ _) | (with_reducible refine Chg.drew ?_) | (refine Chg.set ?_ (.inr (by first | rfl | exact .inl rfl | exact .inr rfl)) _)))), ?_⟩
  unfold sideWp; simp only [applyP, List.nil_append, List.cons_append, List.foldl_cons, List.foldl_nil, Act.put, List.setIfInBounds_toArray, List.set_cons_zero, List.set_cons_succ, List.drop_succ_cons, List.drop_zero]
  go_wp2
  refine bodyPost_ret (v := .tuple #[.agg #[.int .i64 (T : Int), .int .i64 sp, .slice A len cap, .slice (some ⟨ρ'.rb, 0, none⟩) T ρ'.rc, .slice (some ⟨ρ'.sb, 0, none⟩) G.n ρ'.sc, .slice (some ⟨ρ'.fb, 0, none⟩) G.n ρ'.fc], .agg #[.int .i64 0, .bool false, .int .i64 0]]) (by simp only [results, Try.results40]; go_simp) rfl ?_
  refine ⟨_, rfl, rdone (h3) (hb4.trans (hb3.mono (by omega))) ((unhide HI).lt hT0 hn0) (fun b hb' => by
    rcases hr3 b hb' with h | h
    · exact .inl h
    · exact .inr (by omega)) (w3 := w5) ?_ (by omega)⟩
  (repeat (first | (with_reducible exact Chg.refl _ _) | (with_reducible refine Chg.drew ?_) | (refine Chg.set ?_ (.inr (by first | rfl | exact .inl rfl | exact .inr rfl)) _)))

set_option maxRecDepth 100000 in
set_option maxHeartbeats 4000000 in
theorem rDo_4n (H : IsR T S w ρ G) (HS : ShOk w A len S) (hlen : len ≤ 9223372036854775807) (hSz : ∀ i, i < len → (S i).size ≤ 9223372036854775807) (hT0 : 1 ≤ T) (hT : T ≤ 8) (hn0 : 1 ≤ G.n) (hn : G.n ≤ 100000) (t : Nat) (ht : t < T) (z : Nat → Int) (h0 : opE len S z = 0) (hz : z 0 = 4) (a : Nat) (ha : z 1 = (a : Int)) (la : a < 6) (b : Nat) (hb : z 2 = (b : Int)) (lb : b < 6) (c : Nat) (hc : z 3 = (c : Int)) (lc : c < 6) (f : Nat) (hf : z 4 = (f : Int)) (o y : Nat) (hr : G.root t a = o) (hoy : o = y + 1) (hy : y < G.n) (lf : f < (S (G.sh (y + 1))).size) (hm : (S (G.sh (y + 1))).size ≤ 1000000) (hi : isE len S (G.sh (y + 1)) (z 4) (fldK (z 0)) = 0) (v : Int) (hv : G.fl (y + 1) f = v) (hq : ¬ v = (G.root t b : Int)) :
    Calls Try.prog 40 #[rV T sp A len cap ρ G.n, .int .i64 (t : Int), opV z] w (RDone T sp A len cap S w ρ G (G) (.agg #[.int .i64 0, .bool false, .int .i64 0])) := by
  have HI := hide H
  have CO := hide (fun W (hW : Below w.heap.size w W) => refChk_any A len cap S hlen hSz z W (HS.keep hW))
  rw [h0] at CO
  simp only [opV, hz, ha, hb, hc, hf] at CO
  have CF := hide (fun W => refField_any z W)
  have CI := hide (fun W (hW : Below w.heap.size w W) => refIs_any A len cap S hlen hSz (G.sh (y + 1)) (z 4) (fldK (z 0)) W (HS.keep hW))
  rw [hi] at CI
  simp only [opV, hz, ha, hb, hc, hf] at CF CI
  generalize fldK 4 = K at CF CI
  clear hi
  unfold rV
  simp only [opV, hz, ha, hb, hc, hf]
  clear H h0 hz ha hb hc hf
  go_enter Try.func40, Try.ntmps40
  go_upto_region 1 with fail
  refine wp_gen ?_
  intro w1 hw1
  obtain ⟨hB1, hz1, a0, a1, a2, a3⟩ := alloc4 hw1
  clear hw1
  obtain ⟨-, -, c2, -, -, -⟩ := cells6 a0
  obtain ⟨o0, o1, o2, o3, o4, o5, o6, o7⟩ := cells8 a1
  go_wp2_with fail
  refine (unhide CO _ hB1).mono ?_
  rintro e w2 ⟨rfl, hb2⟩
  clear c2 o0 o1 o2 o3 o4 o5 o6 o7 CO
  have hz2 := hb2.size
  have d0 : w2.heap[w.heap.size]? = _ := (hb2.block _ (by omega)).trans a0
  have d1 : w2.heap[w.heap.size + 1]? = _ := (hb2.block _ (by omega)).trans a1
  have d2 : w2.heap[w.heap.size + 2]? = _ := (hb2.block _ (by omega)).trans a2
  have d3 : w2.heap[w.heap.size + 3]? = _ := (hb2.block _ (by omega)).trans a3
  have hb : Below w.heap.size w w2 := hB1.trans (hb2.mono (by omega))
  clear a0 a1 a2 a3 hb2 hB1
  obtain ⟨c0, c1, c2, c3, c4, c5⟩ := cells6 d0
  obtain ⟨o0, o1, o2, o3, o4, o5, o6, o7⟩ := cells8 d1
  have Brt := (unhide HI).rows t ht
  have rt := ((unhide HI).below hb).rows t ht
  have t0 : (0 : Int) ≤ (t : Int) := by omega
  have t1 : (t : Int) < (T : Int) := by omega
  have Bsa := (unhide HI).root t a ht la
  have sa := ((unhide HI).below hb).root t a ht la
  have ga0 : (0 : Int) ≤ (a : Int) := by omega
  have ga1 : (a : Int) < 6 := by omega
  rw [hr] at sa Bsa
  have hxy : (o : Int) - 1 = (y : Int) := by omega
  have ho : ¬ (o : Int) = 0 := by omega
  have y0 : (0 : Int) ≤ (y : Int) := by omega
  have y1 : (y : Int) < (G.n : Int) := by omega
  have sy := ((unhide HI).below hb).shp y hy
  clear hr hoy Brt
  go_upto_region 21 with fail
  have uc0 := Later.cell (block_lt c0) c0
  have uc1 := Later.cell (block_lt c1) c1
  have uc2 := Later.cell (block_lt c2) c2
  have uc3 := Later.cell (block_lt c3) c3
  have uc4 := Later.cell (block_lt c4) c4
  have uc5 := Later.cell (block_lt c5) c5
  have uo0 := Later.cell (block_lt o0) o0
  have uo1 := Later.cell (block_lt o1) o1
  have uo2 := Later.cell (block_lt o2) o2
  have uo3 := Later.cell (block_lt o3) o3
  have uo4 := Later.cell (block_lt o4) o4
  have uo5 := Later.cell (block_lt o5) o5
  have uo6 := Later.cell (block_lt o6) o6
  have uo7 := Later.cell (block_lt o7) o7
  have usy := Later.cell (block_lt sy) sy
  have CG := hide (fun v : Later w2 => later_call (unhide CF v.val))
  have CH := hide (fun v : Later w2 => later_same (unhide CI v.val (hb.trans (v.ok.mono (by omega)))))
  clear CF CI
  refine wp_region_later w2 (by kernel_rfl) (by kernel_rfl) (by repeat (first | exact Below.refl _ _ | assumption | refine Below.alloc ?_ (by first | (simp; done) | (simp; omega) | omega) _ | refine Below.setCell ?_ (by first | (simp; done) | (simp; omega) | omega) _ | apply Below.drew | refine Below.trans ?_ (Below.mono (by assumption) (by first | (simp; done) | (simp; omega) | omega)))) ?_; (repeat (first | go_big_quiet_skip | (go_big_quiet_want; (first | ((fail); go_big_quiet_on; simp only [Act.put, List.setIfInBounds_toArray, List.set_cons_zero, List.set_cons_succ]) | (go_big_quiet_op; (first | go_big_quiet_on | go_big_quiet_call ((first | (go_at_call 72; exact unhide CG _) | (go_at_call 71; exact unhide CH _))))))))); refine wpQuiet_nil ?_
  intro w3 hw3
  clear uc0 uc1 uc2 uc3 uc4 uc5 uo0 uo1 uo2 uo3 uo4 uo5 uo6 uo7 usy
  clear CG CH sy rt sa
  clear c0 c1 c2 c3 c4 c5 o0 o1 o2 o3 o4 o5 o6 o7
  have hz3 := hw3.size
  have e0 : w3.heap[w.heap.size]? = _ := (hw3.block _ (by omega)).trans d0
  have e1 : w3.heap[w.heap.size + 1]? = _ := (hw3.block _ (by omega)).trans d1
  have e2 : w3.heap[w.heap.size + 2]? = _ := (hw3.block _ (by omega)).trans d2
  have e3 : w3.heap[w.heap.size + 3]? = _ := (hw3.block _ (by omega)).trans d3
  have hb3 : Below w.heap.size w w3 := hb.trans (hw3.mono (by omega))
  clear d0 d1 d2 d3 hb hw3
  obtain ⟨c0, c1, c2, c3, c4, c5⟩ := cells6 e0
  obtain ⟨o0, o1, o2, o3, o4, o5, o6, o7⟩ := cells8 e1
  have r1 := ((unhide HI).below hb3).flds y hy
  have rf := ((unhide HI).below hb3).fld y f hy lf
  rw [hv] at rf
  have f0 : (0 : Int) ≤ (f : Int) := by omega
  have f1 : (f : Int) < ((S (G.sh (y + 1))).size : Int) := by omega
  clear hv
  go_upto_region 24 with fail
  have uc0 := Later.cell (block_lt c0) c0
  have uc1 := Later.cell (block_lt c1) c1
  have uc2 := Later.cell (block_lt c2) c2
  have uc3 := Later.cell (block_lt c3) c3
  have uc4 := Later.cell (block_lt c4) c4
  have uc5 := Later.cell (block_lt c5) c5
  have uo0 := Later.cell (block_lt o0) o0
  have uo1 := Later.cell (block_lt o1) o1
  have uo2 := Later.cell (block_lt o2) o2
  have uo3 := Later.cell (block_lt o3) o3
  have uo4 := Later.cell (block_lt o4) o4
  have uo5 := Later.cell (block_lt o5) o5
  have uo6 := Later.cell (block_lt o6) o6
  have uo7 := Later.cell (block_lt o7) o7
  have ur1 := Later.cell (block_lt r1) r1
  have urf := Later.cell (block_lt rf) rf
  refine wp_region_later w3 (by kernel_rfl) (by kernel_rfl) (by repeat (first | exact Below.refl _ _ | assumption | refine Below.alloc ?_ (by first | (simp; done) | (simp; omega) | omega) _ | refine Below.setCell ?_ (by first | (simp; done) | (simp; omega) | omega) _ | apply Below.drew | refine Below.trans ?_ (Below.mono (by assumption) (by first | (simp; done) | (simp; omega) | omega)))) ?_; (repeat (first | go_big_quiet_skip | (go_big_quiet_want; (first | ((fail); go_big_quiet_on; simp only [Act.put, List.setIfInBounds_toArray, List.set_cons_zero, List.set_cons_succ]) | (go_big_quiet_op; (first | go_big_quiet_on | go_big_quiet_call ((fail)))))))); refine wpQuiet_nil ?_
  intro w4 hw4
  clear uc0 uc1 uc2 uc3 uc4 uc5 uo0 uo1 uo2 uo3 uo4 uo5 uo6 uo7 ur1 urf
  clear r1 rf
  clear c0 c1 c2 c3 c4 c5 o0 o1 o2 o3 o4 o5 o6 o7
  have hz4 := hw4.size
  have f0 : w4.heap[w.heap.size]? = _ := (hw4.block _ (by omega)).trans e0
  have f1 : w4.heap[w.heap.size + 1]? = _ := (hw4.block _ (by omega)).trans e1
  have f2 : w4.heap[w.heap.size + 2]? = _ := (hw4.block _ (by omega)).trans e2
  have f3 : w4.heap[w.heap.size + 3]? = _ := (hw4.block _ (by omega)).trans e3
  have hb4 : Below w.heap.size w w4 := hb3.trans (hw4.mono (by omega))
  clear e0 e1 e2 e3 hb3 hw4
  obtain ⟨c0, c1, c2, c3, c4, c5⟩ := cells6 f0
  obtain ⟨o0, -, o2, -, -, -, -, -⟩ := cells8 f1
  obtain ⟨r0, r1, r2, r3, r4, r5⟩ := cells6 f2
  have fr := frz f2
  obtain ⟨q0, q1, q2⟩ := cells3 f3
  have fq := frz f3
  have Bsb := (unhide HI).root t b ht lb
  have sb := ((unhide HI).below hb4).root t b ht lb
  have gb0 : (0 : Int) ≤ (b : Int) := by omega
  have gb1 : (b : Int) < 6 := by omega
  go_wp2
  refine bodyPost_ret (v := .tuple #[.agg #[.int .i64 (T : Int), .int .i64 sp, .slice A len cap, .slice (some ⟨ρ.rb, 0, none⟩) T ρ.rc, .slice (some ⟨ρ.sb, 0, none⟩) G.n ρ.sc, .slice (some ⟨ρ.fb, 0, none⟩) G.n ρ.fc], .agg #[.int .i64 0, .bool false, .int .i64 0]]) (by simp only [results, Try.results40]; go_simp) rfl ?_
  refine ⟨_, rfl, rdone ((unhide HI).below hb4) (hb4) ((unhide HI).lt hT0 hn0) (fun b hb => .inl hb) (w3 := w4) ?_ (by omega)⟩
  (repeat (first | (with_reducible exact Chg.refl _ _) | (with_reducible refine Chg.drew ?_) | (refine Chg.set ?_ (.inr (by first | rfl | exact .inl rfl | exact .inr rfl)) _)))

set_option maxRecDepth 100000 in
set_option maxHeartbeats 4000000 in
theorem rDo_4y (H : IsR T S w ρ G) (HS : ShOk w A len S) (hlen : len ≤ 9223372036854775807) (hSz : ∀ i, i < len → (S i).size ≤ 9223372036854775807) (hT0 : 1 ≤ T) (hT : T ≤ 8) (hn0 : 1 ≤ G.n) (hn : G.n ≤ 100000) (t : Nat) (ht : t < T) (z : Nat → Int) (h0 : opE len S z = 0) (hz : z 0 = 4) (a : Nat) (ha : z 1 = (a : Int)) (la : a < 6) (b : Nat) (hb : z 2 = (b : Int)) (lb : b < 6) (c : Nat) (hc : z 3 = (c : Int)) (lc : c < 6) (f : Nat) (hf : z 4 = (f : Int)) (o y : Nat) (hr : G.root t a = o) (hoy : o = y + 1) (hy : y < G.n) (lf : f < (S (G.sh (y + 1))).size) (hm : (S (G.sh (y + 1))).size ≤ 1000000) (hi : isE len S (G.sh (y + 1)) (z 4) (fldK (z 0)) = 0) (hv : G.fl (y + 1) f = (G.root t b : Int)) :
    Calls Try.prog 40 #[rV T sp A len cap ρ G.n, .int .i64 (t : Int), opV z] w (RDone T sp A len cap S w ρ G (G.field (y + 1) f (G.root t c)) (.agg #[.int .i64 0, .bool true, .int .i64 0])) := by
  have HI := hide H
  have CO := hide (fun W (hW : Below w.heap.size w W) => refChk_any A len cap S hlen hSz z W (HS.keep hW))
  rw [h0] at CO
  simp only [opV, hz, ha, hb, hc, hf] at CO
  have CF := hide (fun W => refField_any z W)
  have CI := hide (fun W (hW : Below w.heap.size w W) => refIs_any A len cap S hlen hSz (G.sh (y + 1)) (z 4) (fldK (z 0)) W (HS.keep hW))
  rw [hi] at CI
  simp only [opV, hz, ha, hb, hc, hf] at CF CI
  generalize fldK 4 = K at CF CI
  clear hi
  unfold rV
  simp only [opV, hz, ha, hb, hc, hf]
  clear H h0 hz ha hb hc hf
  go_enter Try.func40, Try.ntmps40
  go_upto_region 1 with fail
  refine wp_gen ?_
  intro w1 hw1
  obtain ⟨hB1, hz1, a0, a1, a2, a3⟩ := alloc4 hw1
  clear hw1
  obtain ⟨-, -, c2, -, -, -⟩ := cells6 a0
  obtain ⟨o0, o1, o2, o3, o4, o5, o6, o7⟩ := cells8 a1
  go_wp2_with fail
  refine (unhide CO _ hB1).mono ?_
  rintro e w2 ⟨rfl, hb2⟩
  clear c2 o0 o1 o2 o3 o4 o5 o6 o7 CO
  have hz2 := hb2.size
  have d0 : w2.heap[w.heap.size]? = _ := (hb2.block _ (by omega)).trans a0
  have d1 : w2.heap[w.heap.size + 1]? = _ := (hb2.block _ (by omega)).trans a1
  have d2 : w2.heap[w.heap.size + 2]? = _ := (hb2.block _ (by omega)).trans a2
  have d3 : w2.heap[w.heap.size + 3]? = _ := (hb2.block _ (by omega)).trans a3
  have hb : Below w.heap.size w w2 := hB1.trans (hb2.mono (by omega))
  clear a0 a1 a2 a3 hb2 hB1
  obtain ⟨c0, c1, c2, c3, c4, c5⟩ := cells6 d0
  obtain ⟨o0, o1, o2, o3, o4, o5, o6, o7⟩ := cells8 d1
  have Brt := (unhide HI).rows t ht
  have rt := ((unhide HI).below hb).rows t ht
  have t0 : (0 : Int) ≤ (t : Int) := by omega
  have t1 : (t : Int) < (T : Int) := by omega
  have Bsa := (unhide HI).root t a ht la
  have sa := ((unhide HI).below hb).root t a ht la
  have ga0 : (0 : Int) ≤ (a : Int) := by omega
  have ga1 : (a : Int) < 6 := by omega
  rw [hr] at sa Bsa
  have hxy : (o : Int) - 1 = (y : Int) := by omega
  have ho : ¬ (o : Int) = 0 := by omega
  have y0 : (0 : Int) ≤ (y : Int) := by omega
  have y1 : (y : Int) < (G.n : Int) := by omega
  have sy := ((unhide HI).below hb).shp y hy
  clear hr hoy Brt
  go_upto_region 21 with fail
  have uc0 := Later.cell (block_lt c0) c0
  have uc1 := Later.cell (block_lt c1) c1
  have uc2 := Later.cell (block_lt c2) c2
  have uc3 := Later.cell (block_lt c3) c3
  have uc4 := Later.cell (block_lt c4) c4
  have uc5 := Later.cell (block_lt c5) c5
  have uo0 := Later.cell (block_lt o0) o0
  have uo1 := Later.cell (block_lt o1) o1
  have uo2 := Later.cell (block_lt o2) o2
  have uo3 := Later.cell (block_lt o3) o3
  have uo4 := Later.cell (block_lt o4) o4
  have uo5 := Later.cell (block_lt o5) o5
  have uo6 := Later.cell (block_lt o6) o6
  have uo7 := Later.cell (block_lt o7) o7
  have usy := Later.cell (block_lt sy) sy
  have CG := hide (fun v : Later w2 => later_call (unhide CF v.val))
  have CH := hide (fun v : Later w2 => later_same (unhide CI v.val (hb.trans (v.ok.mono (by omega)))))
  clear CF CI
  refine wp_region_later w2 (by kernel_rfl) (by kernel_rfl) (by repeat (first | exact Below.refl _ _ | assumption | refine Below.alloc ?_ (by first | (simp; done) | (simp; omega) | omega) _ | refine Below.setCell ?_ (by first | (simp; done) | (simp; omega) | omega) _ | apply Below.drew | refine Below.trans ?_ (Below.mono (by assumption) (by first | (simp; done) | (simp; omega) | omega)))) ?_; (repeat (first | go_big_quiet_skip | (go_big_quiet_want; (first | ((fail); go_big_quiet_on; simp only [Act.put, List.setIfInBounds_toArray, List.set_cons_zero, List.set_cons_succ]) | (go_big_quiet_op; (first | go_big_quiet_on | go_big_quiet_call ((first | (go_at_call 72; exact unhide CG _) | (go_at_call 71; exact unhide CH _))))))))); refine wpQuiet_nil ?_
  intro w3 hw3
  clear uc0 uc1 uc2 uc3 uc4 uc5 uo0 uo1 uo2 uo3 uo4 uo5 uo6 uo7 usy
  clear CG CH sy rt sa
  clear c0 c1 c2 c3 c4 c5 o0 o1 o2 o3 o4 o5 o6 o7
  have hz3 := hw3.size
  have e0 : w3.heap[w.heap.size]? = _ := (hw3.block _ (by omega)).trans d0
  have e1 : w3.heap[w.heap.size + 1]? = _ := (hw3.block _ (by omega)).trans d1
  have e2 : w3.heap[w.heap.size + 2]? = _ := (hw3.block _ (by omega)).trans d2
  have e3 : w3.heap[w.heap.size + 3]? = _ := (hw3.block _ (by omega)).trans d3
  have hb3 : Below w.heap.size w w3 := hb.trans (hw3.mono (by omega))
  clear d0 d1 d2 d3 hb hw3
  obtain ⟨c0, c1, c2, c3, c4, c5⟩ := cells6 e0
  obtain ⟨o0, o1, o2, o3, o4, o5, o6, o7⟩ := cells8 e1
  have r1 := ((unhide HI).below hb3).flds y hy
  have rf := ((unhide HI).below hb3).fld y f hy lf
  rw [hv] at rf
  have f0 : (0 : Int) ≤ (f : Int) := by omega
  have f1 : (f : Int) < ((S (G.sh (y + 1))).size : Int) := by omega
  clear hv
  go_upto_region 24 with fail
  have uc0 := Later.cell (block_lt c0) c0
  have uc1 := Later.cell (block_lt c1) c1
  have uc2 := Later.cell (block_lt c2) c2
  have uc3 := Later.cell (block_lt c3) c3
  have uc4 := Later.cell (block_lt c4) c4
  have uc5 := Later.cell (block_lt c5) c5
  have uo0 := Later.cell (block_lt o0) o0
  have uo1 := Later.cell (block_lt o1) o1
  have uo2 := Later.cell (block_lt o2) o2
  have uo3 := Later.cell (block_lt o3) o3
  have uo4 := Later.cell (block_lt o4) o4
  have uo5 := Later.cell (block_lt o5) o5
  have uo6 := Later.cell (block_lt o6) o6
  have uo7 := Later.cell (block_lt o7) o7
  have ur1 := Later.cell (block_lt r1) r1
  have urf := Later.cell (block_lt rf) rf
  refine wp_region_later w3 (by kernel_rfl) (by kernel_rfl) (by repeat (first | exact Below.refl _ _ | assumption | refine Below.alloc ?_ (by first | (simp; done) | (simp; omega) | omega) _ | refine Below.setCell ?_ (by first | (simp; done) | (simp; omega) | omega) _ | apply Below.drew | refine Below.trans ?_ (Below.mono (by assumption) (by first | (simp; done) | (simp; omega) | omega)))) ?_; (repeat (first | go_big_quiet_skip | (go_big_quiet_want; (first | ((fail); go_big_quiet_on; simp only [Act.put, List.setIfInBounds_toArray, List.set_cons_zero, List.set_cons_succ]) | (go_big_quiet_op; (first | go_big_quiet_on | go_big_quiet_call ((fail)))))))); refine wpQuiet_nil ?_
  intro w4 hw4
  clear uc0 uc1 uc2 uc3 uc4 uc5 uo0 uo1 uo2 uo3 uo4 uo5 uo6 uo7 ur1 urf
  clear r1 rf
  clear c0 c1 c2 c3 c4 c5 o0 o1 o2 o3 o4 o5 o6 o7
  have hz4 := hw4.size
  have f0 : w4.heap[w.heap.size]? = _ := (hw4.block _ (by omega)).trans e0
  have f1 : w4.heap[w.heap.size + 1]? = _ := (hw4.block _ (by omega)).trans e1
  have f2 : w4.heap[w.heap.size + 2]? = _ := (hw4.block _ (by omega)).trans e2
  have f3 : w4.heap[w.heap.size + 3]? = _ := (hw4.block _ (by omega)).trans e3
  have hb4 : Below w.heap.size w w4 := hb3.trans (hw4.mono (by omega))
  clear e0 e1 e2 e3 hb3 hw4
  obtain ⟨c0, c1, c2, c3, c4, c5⟩ := cells6 f0
  obtain ⟨o0, -, o2, o3, o4, -, -, -⟩ := cells8 f1
  obtain ⟨r0, r1, r2, r3, r4, r5⟩ := cells6 f2
  have fr := frz f2
  obtain ⟨q0, q1, q2⟩ := cells3 f3
  have fq := frz f3
  have Bsb := (unhide HI).root t b ht lb
  have sb := ((unhide HI).below hb4).root t b ht lb
  have gb0 : (0 : Int) ≤ (b : Int) := by omega
  have gb1 : (b : Int) < 6 := by omega
  have Bsc := (unhide HI).root t c ht lc
  have sc := ((unhide HI).below hb4).root t c ht lc
  have gc0 : (0 : Int) ≤ (c : Int) := by omega
  have gc1 : (c : Int) < 6 := by omega
  generalize G.root t b = rb at *
  generalize G.root t c = rc at *
  have HS0 := fun W (hW : Below w4.heap.size w4 W) => rField_any (sp := sp) (A := A) (len := len) (cap := cap) ((unhide HI).below (hb4.trans (hW.mono (by omega)))) (by omega) o y f (rc) hxy hy lf hm
  unfold rV at HS0
  go_upto_region 33 with fail
  have uc0 := chd1 (n := w.heap.size + 2) (by omega) c0
  have uc1 := chd1 (n := w.heap.size + 2) (by omega) c1
  have uc2 := chd1 (n := w.heap.size + 2) (by omega) c2
  have uc3 := chd1 (n := w.heap.size + 2) (by omega) c3
  have uc4 := chd1 (n := w.heap.size + 2) (by omega) c4
  have uc5 := chd1 (n := w.heap.size + 2) (by omega) c5
  have uo0 := chd1 (n := w.heap.size + 2) (by omega) o0
  have uo2 := chd1 (n := w.heap.size + 2) (by omega) o2
  have uo3 := chd1 (n := w.heap.size + 2) (by omega) o3
  have uo4 := chd1 (n := w.heap.size + 2) (by omega) o4
  have usc := chd1 (n := w.heap.size + 2) (Nat.ne_of_lt (Nat.lt_of_lt_of_le (block_lt Bsc) (by omega))) sc
  refine wp_region_side_chd [0, 0, 0, 0, 0, 0, 0, 0, 0, 1, 0, 1, 2] 12 (fun c => c = w.heap.size + 2) w4 (by kernel_rfl) (by kernel_rfl) ((Chg.refl _ _).drew) ?_; simp only [kblk, List.map_cons, List.map_nil, Nat.reduceBNe, diesOps_f, diesOps_t, diesOps_nil, bne_self_eq_false]; (repeat (first | go_big_quiet_skip | (go_big_quiet_want; (first | ((fail); go_big_quiet_on; simp only [Act.put, List.setIfInBounds_toArray, List.set_cons_zero, List.set_cons_succ]) | (go_big_quiet_op; (first | go_big_quiet_on | go_big_quiet_call ((fail)))))))); refine wpQuiet_nil ?_; rw [show sideIdx [0, 0, 0, 0, 0, 0, 0, 0, 0, 1, 0, 1, 2] 12 = [9, 11] from by decide]; simp only [List.filterMap_cons, List.filterMap_nil, List.getElem?_cons_zero, List.getElem?_cons_succ]; (try simp only [applyP, List.nil_append, List.cons_append, List.foldl_cons, List.foldl_nil, Act.put, List.setIfInBounds_toArray, List.set_cons_zero, List.set_cons_succ]); unfold sideWp Oper.wpV; (try simp only [applyP, List.nil_append, List.cons_append, List.foldl_cons, List.foldl_nil, Act.put, List.setIfInBounds_toArray, List.set_cons_zero, List.set_cons_succ]); go_simp
  refine (HS0 _ ((Below.refl _ _).drew)).mono ?_
  rintro e w5 ⟨ρ', rfl, h3, hb3, hr3⟩
  have hb3 : Below w4.heap.size w4 w5 := ((Below.refl _ w4).drew).trans (hb3.mono (Nat.le_refl _))
  have hr3 : ∀ b, RBlk T S ρ' _ b → RBlk T S ρ G b ∨ w4.heap.size ≤ b := hr3
  refine ⟨_, rfl, Chg.of hb3, ?_⟩
  clear HS0 sb sc Bsb Bsc usc
  clear c0 c1 c2 c3 c4 c5 o0 o2 o3 o4
  have hz5 := hb3.size
  have j0 : w5.heap[w.heap.size]? = _ := (hb3.block _ (by omega)).trans f0
  have j1 : w5.heap[w.heap.size + 1]? = _ := (hb3.block _ (by omega)).trans f1
  have j2 : w5.heap[w.heap.size + 2]? = _ := (hb3.block _ (by omega)).trans f2
  have j3 : w5.heap[w.heap.size + 3]? = _ := (hb3.block _ (by omega)).trans f3
  obtain ⟨r0, r1, r2, r3, r4, r5⟩ := cells6 j2
  have fr := frz j2
  obtain ⟨q0, q1, q2⟩ := cells3 j3
  have fq := frz j3
  (try simp only [applyP, List.nil_append, List.cons_append, List.foldl_cons, List.foldl_nil, Act.put, List.setIfInBounds_toArray, List.set_cons_zero, List.set_cons_succ]); unfold sideWp Oper.wpV; (try simp only [applyP, List.nil_append, List.cons_append, List.foldl_cons, List.foldl_nil, Act.put, List.setIfInBounds_toArray, List.set_cons_zero, List.set_cons_succ]); go_simp
  refine ⟨(Chg.of hb3).trans (by (repeat (first | (with_reducible exact Chg.refl _ _) | (with_reducible refine Chg.drew ?_) | (refine Chg.set ?_ (.inr (by first | rfl | exact .inl rfl | exact .inr rfl)) _)))), ?_⟩
  unfold sideWp; simp only [applyP, List.nil_append, List.cons_append, List.foldl_cons, List.foldl_nil, Act.put, List.setIfInBounds_toArray, List.set_cons_zero, List.set_cons_succ, List.drop_succ_cons, List.drop_zero]
  go_wp2
  refine bodyPost_ret (v := .tuple #[.agg #[.int .i64 (T : Int), .int .i64 sp, .slice A len cap, .slice (some ⟨ρ'.rb, 0, none⟩) T ρ'.rc, .slice (some ⟨ρ'.sb, 0, none⟩) G.n ρ'.sc, .slice (some ⟨ρ'.fb, 0, none⟩) G.n ρ'.fc], .agg #[.int .i64 0, .bool true, .int .i64 0]]) (by simp only [results, Try.results40]; go_simp) rfl ?_
  refine ⟨_, rfl, rdone (h3) (hb4.trans (hb3.mono (by omega))) ((unhide HI).lt hT0 hn0) (fun b hb' => by
    rcases hr3 b hb' with h | h
    · exact .inl h
    · exact .inr (by omega)) (w3 := w5) ?_ (by omega)⟩
  (repeat (first | (with_reducible exact Chg.refl _ _) | (with_reducible refine Chg.drew ?_) | (refine Chg.set ?_ (.inr (by first | rfl | exact .inl rfl | exact .inr rfl)) _)))
end
end Go.Proofs.Ytbkaopeajjechaa
