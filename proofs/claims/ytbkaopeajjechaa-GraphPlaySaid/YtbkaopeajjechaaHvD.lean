/- The reference of layer 9: what can be reached. The reference of layer 9: View. The reference of layer 9: Alike. The reference of layer 9: Words. -/
import Derived.Test.YtbkaopeajjechaaHvC
namespace Go.Proofs.Ytbkaopeajjechaa
set_option linter.unusedVariables false
set_option linter.unusedSimpArgs false
open Go.RowKit Go.Maps
section
variable {T : Nat} {sp : Int} {A : Option Addr} {len cap : Nat} {S : Nat → ByteArray} {w : World} {ρ : RLay} {G : Gr}

/-- What is met so far: the list, and the marks. -/
structure RSt (W : World) (base sb n : Nat) (v : Value) (M : List Nat) : Prop where
  row : W.ownsRow base 3 1 v M.length (M.map fun x => .int .i64 (x : Nat))
  seen : ∃ cs, W.heap[sb]? = some (.cells cs 4 (0, 0)) ∧ ∀ x, x ≤ n → cs[x]? = some (.bool (decide (x ∈ M)))
  lt : sb < base
  le : base ≤ W.heap.size

theorem RSt.below {W V : World} {base sb n : Nat} {v : Value} {M : List Nat} (h : RSt W base sb n v M) (hb : Below W.heap.size W V) : RSt V base sb n v M := by
  obtain ⟨cs, h1, h2⟩ := h.seen
  exact ⟨h.row.kept (grown_below hb none) (by cases v.ownBlock <;> simp), ⟨cs, (hb.block _ (Array.getElem?_eq_some_iff.1 h1).1).trans h1, h2⟩, h.lt, Nat.le_trans h.le hb.size⟩

theorem RSt.at {W : World} {base sb n : Nat} {v : Value} {M : List Nat} (h : RSt W base sb n v M) {x : Nat} (hx : x ≤ n) : W.cell? ⟨sb, x, none⟩ = some (.bool (decide (x ∈ M))) ∧ W.frozen? ⟨sb, x, none⟩ = false := by
  obtain ⟨cs, h1, h2⟩ := h.seen
  exact ⟨(Lib.cell_of_heap h1 x).trans (h2 x hx), by simp [World.frozen?, h1]⟩

theorem RSt.set {W : World} {base sb n : Nat} {v : Value} {M : List Nat} (h : RSt W base sb n v M) (x : Nat) : (W.setCell ⟨sb, x, none⟩ (.bool true)).ownsRow base 3 1 v M.length (M.map fun x => .int .i64 (x : Nat)) :=
  h.row.kept (row := some sb) (set_grown _ _ _ _) (.inr (fun e => by have := (h.row.lt sb e).1; have := h.lt; omega))

theorem Chg.thin {Z Y : Nat → Prop} {A B : World} (h : Chg Z A B) (hz : ∀ i, i < A.heap.size → Z i → Y i) : Chg Y A B :=
  ⟨h.os, h.tape, h.output, h.size, fun i hi hn => h.block i hi (fun e => hn (hz i hi e))⟩

/-- One more is met. -/
theorem RSt.more {W w3 : World} {base sb n : Nat} {v v' : Value} {M : List Nat} (h : RSt W base sb n v M) {x : Nat} (hx : x ≤ n) (ho : w3.ownsRow base 3 1 v' (M.length + 1) ((M.map fun x => Value.int .i64 (x : Nat)) ++ [.int .i64 (x : Nat)]))
    (hg : ((W.setCell ⟨sb, x, none⟩ (.bool true)).alloc (.cells #[.int .i64 (x : Nat)] 3)).grownBy w3 v.ownBlock) {w2 : World} (hb : w2.heap.size ≤ base) (hC : Chg (fun j => j = sb) w2 W) : RSt w3 base sb n v' (M ++ [x]) ∧ Chg (fun j => j = sb) w2 w3 := by
  obtain ⟨cs, h1, h2⟩ := h.seen
  have hl := (Array.getElem?_eq_some_iff.1 h1).1
  have e1 := heap_setCell_same W sb x _ _ (.bool true) h1
  have hnb : some sb ≠ v.ownBlock := fun e => by have := (h.row.lt sb e.symm).1; have := h.lt; omega
  have e2 : w3.heap[sb]? = some (.cells (cs.setIfInBounds x (.bool true)) 4 (0, 0)) := by
    refine (hg.block sb (by simp; omega) hnb).trans ?_
    rw [heap_alloc_old _ _ _ (by simp; omega)]
    exact e1
  have hs := hg.size
  simp only [World.size_alloc, World.size_setCell] at hs
  refine ⟨⟨by rw [List.length_append, List.map_append]; exact ho, ⟨_, e2, fun y hy => ?_⟩, h.lt, by have := h.le; omega⟩, ?_⟩
  · rw [Array.getElem?_setIfInBounds]
    by_cases e : x = y
    · subst e
      have : x < cs.size := by
        have := h2 x hx
        exact (Array.getElem?_eq_some_iff.1 this).1
      rw [if_pos rfl, if_pos this]
      simp
    · rw [if_neg e, h2 y hy]
      have : (y ∈ M ++ [x]) = (y ∈ M) := by simp [show y ≠ x from fun k => e k.symm]
      simp only [this]
  · have hc : Chg (fun j => j = sb ∨ v.ownBlock = some j) W w3 := (((Chg.refl _ _).set (.inr (.inl rfl)) _).alloc _).trans ((grow_chg hg).mono (fun c e => .inr e))
    exact (hC.mono (fun c e => .inl e)).trans hc |>.thin (fun i hi e => by
      rcases e with e | e
      · exact e
      · have := (h.row.lt i e).1
        omega)

theorem row_mono {W : World} {base base' : Nat} {e : TypeId} {k n : Nat} {v : Value} {xs : List Value} (h : W.ownsRow base e k v n xs) (hb : base' ≤ base) : W.ownsRow base' e k v n xs :=
  ⟨h.1, h.2.imp id (fun ⟨g, c, cur, e1, e2, r⟩ => ⟨g, c, cur, e1, Nat.le_trans hb e2, r⟩)⟩
theorem row_sl {W : World} {base : Nat} {e : TypeId} {n : Nat} {v : Value} {xs : List Value} (h : W.ownsRow base e 1 v n xs) : ∃ A c, v = .slice A n c := by
  obtain ⟨_, ⟨e1, e2⟩ | ⟨g, c, cur, e1, -⟩⟩ := h
  · subst e2; exact ⟨_, _, e1⟩
  · exact ⟨_, _, e1⟩

theorem Gr.Ok.isIn (h : G.Ok len S T) : G.In (fun x => 1 ≤ x ∧ x ≤ G.n) T S :=
  ⟨fun t s ht hs => by have := h.root t s ht hs; omega, fun x hx f hf => by
    unfold Gr.held
    split
    · rename_i hk
      have := h.ptr x f hx.1 hx.2 hf hk
      omega
    · exact .inl rfl, fun x hx => hx⟩

theorem kd_112 {s : ByteArray} {q : Nat} (h : q < s.size) (hb : (s[q]'h).toNat = 112) : kd s q = 0 := by
  unfold kd
  rw [show s.get! q = s[q]'h by simp [ByteArray.get!, h]; rfl, hb]
  rfl
theorem kd_not {s : ByteArray} {q : Nat} (h : q < s.size) (hs : okS s) (hb : ¬ (s[q]'h).toNat = 112) : ¬ kd s q = 0 := by
  unfold kd
  rw [show s.get! q = s[q]'h by simp [ByteArray.get!, h]; rfl]
  have := hs.2 q h
  unfold ltr at this
  rw [if_pos (by omega)]
  decide
theorem meetL_old {M : List Nat} {xs : List Nat} {x : Nat} (h : x = 0 ∨ x ∈ meetL M xs) : meetL M (xs ++ [x]) = meetL M xs := by rw [meetL_snoc, if_pos h]
theorem meetL_new {M : List Nat} {xs : List Nat} {x : Nat} (h1 : x ≠ 0) (h2 : x ∉ meetL M xs) : meetL M (xs ++ [x]) = meetL M xs ++ [x] := by rw [meetL_snoc, if_neg (fun h => h.elim h1 h2)]
theorem map_snoc {α : Type} (f : Nat → α) (q : Nat) : (List.range (q + 1)).map f = (List.range q).map f ++ [f q] := by rw [List.range_succ, List.map_append]; rfl

set_option maxRecDepth 100000 in
theorem inf_b : ∃ i : TypeInfo, Try.prog.info? 4 = some i ∧ i.zero = some (.bool false) ∧ i.size = 1 ∧ i.bytes = 1 := ⟨_, rfl, rfl, rfl, rfl⟩

set_option maxRecDepth 100000 in
set_option maxHeartbeats 4000000 in
theorem rReach_any (H : IsR T S w ρ G) (HS : ShOk w A len S) (hok : G.Ok len S T) (hT0 : 1 ≤ T) (hT : T ≤ 8) (hn0 : 1 ≤ G.n) (hn : G.n ≤ 100000) (hlen : len ≤ 1000000) :
    Calls Try.prog 42 #[rV T sp A len cap ρ G.n] w fun e w' => ∃ v, e = .returned v ∧ w'.ownsRow w.heap.size 3 1 v (G.reach T S).length ((G.reach T S).map fun x => .int .i64 (x : Nat)) ∧ Below w.heap.size w w' := by
  obtain ⟨ga, oa, rfl, hgl, hcs⟩ := HS (by have := hok.tab.1; omega)
  have HI := hide H
  have HIN := hide hok.isIn
  have HOK := hide hok
  have HSH := hide hcs
  clear H hcs hok HS
  obtain ⟨i2, mi, mz0, mz1, mz2⟩ := inf_b
  obtain ⟨mc, hmc⟩ : ∃ mc, mc = madeCells (Value.bool false).cells ((G.n + 1) * 1) := ⟨_, rfl⟩
  have hmk : ∀ W, (Instr.makeSlice 138 (.int .i64 ((G.n : Int) + 1)) (.int .i64 ((G.n : Int) + 1))).run Try.prog W = .ok (.slice (some ⟨W.heap.size, 0, none⟩) (G.n + 1) (G.n + 1)) (W.alloc (.cells mc 4)) := fun W => by
    rw [show ((G.n : Int) + 1) = ((G.n + 1 : Nat) : Int) from rfl, run_make_rowN (P := Try.prog) 138 4 i2 _ Try.underlying138 mi mz0 .i64 .i64 (G.n + 1) (G.n + 1) (Nat.le_refl _) (by rw [mz2]; omega) (by omega) W, mz1, hmc]
  have hmz : ∀ x, x ≤ G.n → mc[x]? = some (.bool (decide (x ∈ ([] : List Nat)))) := fun x hx => by
    rw [hmc, Nat.mul_one]
    show (madeCells #[Value.bool false] (G.n + 1))[x]? = _
    rw [← Array.getElem?_toList, toList_madeCells_one, List.getElem?_replicate, if_pos (by omega)]
    simp
  clear hmc mi mz0 mz1 mz2
  unfold rV
  go_enter Try.func42, Try.ntmps42
  have gn : (0 : Int) ≤ (G.n : Int) + 1 := by omega
  have gn2 : (G.n : Int) + 1 ≤ 100001 := by omega
  go_upto_region 3 with fail
  refine wp_gen ?_
  intro w2 hw2
  have a0 : w2.heap[w.heap.size]? = some (.cells #[.int .i64 (T : Int), .int .i64 sp, .slice (some ⟨ga, oa, none⟩) len cap, .slice (some ⟨ρ.rb, 0, none⟩) T ρ.rc, .slice (some ⟨ρ.sb, 0, none⟩) G.n ρ.sc, .slice (some ⟨ρ.fb, 0, none⟩) G.n ρ.fc] 49 (0, 0)) := by
    rw [hw2, heap_alloc_old _ _ _ (by simp)]
    exact heap_alloc_new _ _
  have a1 : w2.heap[w.heap.size + 1]? = some (.cells mc 4 (0, 0)) := by
    rw [hw2, ← World.size_alloc w (.cells #[.int .i64 (T : Int), .int .i64 sp, .slice (some ⟨ga, oa, none⟩) len cap, .slice (some ⟨ρ.rb, 0, none⟩) T ρ.rc, .slice (some ⟨ρ.sb, 0, none⟩) G.n ρ.sc, .slice (some ⟨ρ.fb, 0, none⟩) G.n ρ.fc] 49)]
    exact heap_alloc_new _ _
  have hz2 : w2.heap.size = w.heap.size + 2 := by rw [hw2]; simp
  have hB2 : Below w.heap.size w w2 := by rw [hw2]; repeat (first | exact Below.refl _ _ | assumption | refine Below.alloc ?_ (by first | (simp; done) | (simp; omega) | omega) _ | refine Below.setCell ?_ (by first | (simp; done) | (simp; omega) | omega) _ | apply Below.drew | refine Below.trans ?_ (Below.mono (by assumption) (by first | (simp; done) | (simp; omega) | omega)))
  clear hw2 hmk gn gn2
  have HNN := hide hn
  have HLN := hide hlen
  clear hn hlen
  have hz2' := Nat.le_of_eq hz2
  have hz2'' := Nat.le_of_eq hz2.symm
  clear hz2
  have HR0 : Hid (RSt w2 w2.heap.size (w.heap.size + 1) G.n (.slice none 0 0) []) := hide ⟨World.ownsRow_nil _ _ _ _, ⟨mc, a1, hmz⟩, by omega, Nat.le_refl _⟩
  clear hmz a1
  have HG : Hid (∀ W, Chg (fun j => j = w.heap.size + 1) w2 W → IsR T S W ρ G ∧ W.heap[w.heap.size]? = some (.cells #[.int .i64 (T : Int), .int .i64 sp, .slice (some ⟨ga, oa, none⟩) len cap, .slice (some ⟨ρ.rb, 0, none⟩) T ρ.rc, .slice (some ⟨ρ.sb, 0, none⟩) G.n ρ.sc, .slice (some ⟨ρ.fb, 0, none⟩) G.n ρ.fc] 49 (0, 0)) ∧ ∀ i, i < len → W.cell? ⟨ga, oa + i, none⟩ = some (.string (S i))) := hide (fun W hW => ⟨((unhide HI).below hB2).chg hW (fun b hb e => by
      have e : b = w.heap.size + 1 := e
      have := (unhide HI).lt hT0 hn0 b hb
      omega), (hW.block _ (by omega) (by omega)).trans a0, fun i hi => (hW.cell (o := oa + i) (show ga < w2.heap.size by omega) (show ¬ ga = w.heap.size + 1 by omega)).trans (cell_below hB2 (unhide HSH i hi))⟩)
  clear a0
  obtain ⟨i0, hi, hz0, hz1, hz3⟩ := inf_i
  have INT := hide (show _ ∧ _ ∧ _ ∧ _ from ⟨hi, hz0, hz1, hz3⟩)
  clear hi hz0 hz1 hz3
  go_wp2
  go_loopw [3, 5] (fun v i wr => ∃ k : Nat, k ≤ T ∧ i = .int .i64 k ∧ Hid (RSt wr w2.heap.size (w.heap.size + 1) G.n v (G.met0 k)) ∧ Hid (Chg (fun j => j = w.heap.size + 1) w2 wr)) (fun _ i _ => T - (intOf i).toNat)
  case atStart => exact ⟨0, Nat.zero_le _, rfl, HR0, hide (Chg.refl _ _)⟩
  case round =>
    obtain ⟨k, hk, rfl, HRS, HC⟩ := hrel
    clear HR0
    obtain ⟨-, b0, -⟩ := unhide HG _ (unhide HC)
    have c3 : wr.cell? ⟨w.heap.size, 3, none⟩ = some (.slice (some ⟨ρ.rb, 0, none⟩) T ρ.rc) := Lib.cell_of_heap b0 3
    by_cases hlt : k < T
    · have k0 : (0 : Int) ≤ (k : Int) := by omega
      have k1 : (k : Int) < (T : Int) := by omega
      go_wp2
      clear c3 b0
      obtain ⟨wq, hwq⟩ : ∃ wq, wq = wr := ⟨_, rfl⟩
      subst hwq
      go_loopw [3, 6] (fun v i wr => ∃ q : Nat, q ≤ 6 ∧ i = .int .i64 q ∧ Hid (RSt wr w2.heap.size (w.heap.size + 1) G.n v (meetL (G.met0 k) ((List.range q).map (G.root k)))) ∧ Hid (Chg (fun j => j = w.heap.size + 1) w2 wr)) (fun _ i _ => 6 - (intOf i).toNat)
      case atStart => exact ⟨0, Nat.zero_le _, rfl, HRS, HC⟩
      case round =>
        obtain ⟨q, hq, rfl, HRS2, HC2⟩ := hrel
        clear HRS HC
        obtain ⟨hG, b0, -⟩ := unhide HG _ (unhide HC2)
        have c3 : wr.cell? ⟨w.heap.size, 3, none⟩ = some (.slice (some ⟨ρ.rb, 0, none⟩) T ρ.rc) := Lib.cell_of_heap b0 3
        have rk := hG.rows k hlt
        by_cases hq6 : q < 6
        · have q0 : (0 : Int) ≤ (q : Int) := by omega
          have q1 : (q : Int) < 6 := by omega
          have rx := hG.root k q hlt hq6
          have hxn : G.root k q ≤ G.n := (unhide HOK).root k q hlt hq6
          obtain ⟨x, hx⟩ : ∃ x, x = G.root k q := ⟨_, rfl⟩
          rw [← hx] at rx hxn
          have HX := hide hx
          clear hG b0 hx
          generalize hM : meetL (G.met0 k) ((List.range q).map (G.root k)) = M at *
          have HM := hide hM
          clear hM
          have hlM : M.length ≤ 1000000 := by
            rw [← unhide HM]
            have h0 := met0_ok (unhide HIN) k (by omega)
            have h1 := meetL_ok (D := fun x => 1 ≤ x ∧ x ≤ G.n) ((List.range q).map (G.root k)) (G.met0 k) h0.1 h0.2 (fun y hy => by
              obtain ⟨s, hs, rfl⟩ := List.mem_map.1 hy
              exact (unhide HIN).root k s hlt (by have := List.mem_range.1 hs; omega))
            have := len_le h1.1 (fun y hy => (h1.2 y hy).2)
            have := unhide HNN
            omega
          by_cases h0 : x = 0
          · subst h0
            have hz : Hid (meetL (G.met0 k) ((List.range (q + 1)).map (G.root k)) = M) := hide (by rw [map_snoc, ← unhide HX, meetL_old (.inl rfl)]; exact unhide HM)
            go_wp2
            go_roundw
            case measure => simp [intOf]; omega
            case rel => exact ⟨q + 1, by omega, by go_num, by rw [unhide hz]; exact HRS2, HC2⟩
          · have x0 : ¬ (x : Int) = 0 := by omega
            have x1 : (0 : Int) ≤ (x : Int) := by omega
            have x2 : (x : Int) < (G.n : Int) + 1 := by omega
            obtain ⟨se, sf⟩ := (unhide HRS2).at hxn
            by_cases hm : x ∈ M
            · rw [decide_eq_true hm] at se
              have hz : Hid (meetL (G.met0 k) ((List.range (q + 1)).map (G.root k)) = M) := hide (by rw [map_snoc, ← unhide HX, meetL_old (.inr (by rw [unhide HM]; exact hm))]; exact unhide HM)
              go_wp2
              go_roundw
              case measure => simp [intOf]; omega
              case rel => exact ⟨q + 1, by omega, by go_num, by rw [unhide hz]; exact HRS2, HC2⟩
            · rw [decide_eq_false hm] at se
              have hz : Hid (meetL (G.met0 k) ((List.range (q + 1)).map (G.root k)) = M ++ [x]) := hide (by rw [map_snoc, ← unhide HX, meetL_new h0 (by rw [unhide HM]; exact hm), unhide HM])
              have hle := (unhide HRS2).le
              obtain ⟨hi, hz0, hz1, hz3⟩ := unhide INT
              go_wp2_with (at_builtin; refine wpList_append_own _ rfl (.tmp 54) (.tmp 56) _ rfl w2.heap.size 3 i0 (.int .i64 0) 1 8 Try.underlying46 hi hz0 hz1 hz3 rfl (by decide) _ _ _ rfl (((unhide HRS2).set x).alloc _) ⟨wr.heap.size, 0, none⟩ 1 1 [.int .i64 (x : Int)] rfl rfl ?c1 ?c2 ?c3 ?c4 ?c5 ?_)
              case c1 => exact fun j e h => by rw [← World.size_setCell wr ⟨w.heap.size + 1, x, none⟩ (.bool true)]; exact one_newP _ _ _ j e h
              case c2 => simp [Value.oneCell']
              case c3 => simp only [maxLen]; omega
              case c4 => omega
              case c5 => simp; omega
              intro v' w5 how hgr _
              obtain ⟨hR5, hC5⟩ := (unhide HRS2).more hxn how hgr (Nat.le_refl _) (unhide HC2)
              have HR5 := hide hR5
              have HC5 := hide hC5
              clear how hgr hR5 hC5 hi hz0 hz1 hz3
              go_wp2
              go_roundw
              case measure => simp [intOf]; omega
              case rel => exact ⟨q + 1, by omega, by go_num, by rw [unhide hz]; exact HR5, HC5⟩
        · obtain rfl : q = 6 := by omega
          clear hG b0
          go_wp2
          go_roundw
          case measure => simp [intOf]; omega
          case rel => exact ⟨k + 1, by omega, by go_num, HRS2, HC2⟩
    · obtain rfl : T = k := by omega
      go_wp2
      clear c3 b0
      obtain ⟨wq, hwq⟩ : ∃ wq, wq = wr := ⟨_, rfl⟩
      subst hwq
      go_loopw [3, 8] (fun v i wr => ∃ k : Nat, k ≤ (G.met T S k).length ∧ i = .int .i64 k ∧ Hid (RSt wr w2.heap.size (w.heap.size + 1) G.n v (G.met T S k)) ∧ Hid (Chg (fun j => j = w.heap.size + 1) w2 wr)) (fun _ i _ => G.n - (intOf i).toNat)
      case atStart => exact ⟨0, Nat.zero_le _, rfl, HRS, HC⟩
      case round =>
        obtain ⟨k, hk, rfl, HRS2, HC2⟩ := hrel
        clear HRS HC
        obtain ⟨hG, b0, hsh⟩ := unhide HG _ (unhide HC2)
        by_cases hlt : k < (G.met T S k).length
        · obtain ⟨gv, cv, rfl, hgb, hgs, hcell, -⟩ := own_form (unhide HRS2).row (by omega)
          have hmok := met_ok (unhide HIN) k
          have hml := met_len (unhide HIN) k
          obtain ⟨x, hx⟩ : ∃ x, x = (G.met T S k)[k] := ⟨_, rfl⟩
          have hxD : 1 ≤ x ∧ x ≤ G.n := (hmok.2 x (by rw [hx]; exact List.getElem_mem hlt)).2
          have rv := hcell k (.int .i64 (x : Nat)) (by rw [List.getElem?_map, List.getElem?_eq_getElem hlt, ← hx]; rfl)
          obtain ⟨y, hxy1⟩ : ∃ y, x = y + 1 := ⟨x - 1, by omega⟩
          have HXY := hide hxy1
          have hyn : y < G.n := by omega
          have hsl : G.sh (y + 1) < len := (unhide HOK).sh _ (by omega) (by omega)
          have rs := hG.shp y hyn
          have rt := hsh _ hsl
          have HXG := hide hx
          have HML := hide hml
          have HMO := hide hmok
          obtain ⟨Ln, hLn⟩ : ∃ Ln, Ln = (G.met T S k).length := ⟨_, rfl⟩
          obtain ⟨s, hs⟩ : ∃ s, s = S (G.sh (y + 1)) := ⟨_, rfl⟩
          obtain ⟨sx, hsx⟩ : ∃ sx, sx = G.sh (y + 1) := ⟨_, rfl⟩
          have HSS : Hid (s = S (G.sh (y + 1)) ∧ sx = G.sh (y + 1)) := hide ⟨hs, hsx⟩
          have HLN2 := hide hLn
          rw [← hLn] at hlt hk HRS2 ⊢
          rw [← hs] at rt
          rw [← hsx] at rt rs hsl
          clear hs hsx hLn hcell hmok hml hx hxD hsh hG
          have k0 : (0 : Int) ≤ (k : Int) := by omega
          have k1 : (k : Int) < (Ln : Int) := by omega
          have y2 : (x : Int) - 1 = (y : Int) := by omega
          have y3 : (y : Int) ≤ 100000 := by have := unhide HNN; omega
          clear hxy1
          have y0 : (0 : Int) ≤ (y : Int) := by omega
          have y1 : (y : Int) < (G.n : Int) := by omega
          have s0 : (0 : Int) ≤ (sx : Int) := by omega
          have s1 : (sx : Int) < (len : Int) := by omega
          have c2 : wr.cell? ⟨w.heap.size, 2, none⟩ = some (.slice (some ⟨ga, oa, none⟩) len cap) := Lib.cell_of_heap b0 2
          have c4 : wr.cell? ⟨w.heap.size, 4, none⟩ = some (.slice (some ⟨ρ.sb, 0, none⟩) G.n ρ.sc) := Lib.cell_of_heap b0 4
          go_upto_region 16 with fail
          have u2 := Later.cell (block_lt c2) c2
          have u4 := Later.cell (block_lt c4) c4
          have us := Later.cell (block_lt rs) rs
          have ut := Later.cell (block_lt rt) rt
          have uv := Later.cell (block_lt rv) rv
          refine wp_region_later wr (by kernel_rfl) (by kernel_rfl) (by repeat (first | exact Below.refl _ _ | assumption | refine Below.alloc ?_ (by first | (simp; done) | (simp; omega) | omega) _ | refine Below.setCell ?_ (by first | (simp; done) | (simp; omega) | omega) _ | apply Below.drew | refine Below.trans ?_ (Below.mono (by assumption) (by first | (simp; done) | (simp; omega) | omega)))) ?_; (repeat (first | go_big_quiet_skip | (go_big_quiet_want; (first | ((fail); go_big_quiet_on; simp only [Act.put, List.setIfInBounds_toArray, List.set_cons_zero, List.set_cons_succ]) | (go_big_quiet_op; (first | go_big_quiet_on | go_big_quiet_call ((fail)))))))); refine wpQuiet_nil ?_
          intro w3 hw3
          have HRS3 := hide ((unhide HRS2).below hw3)
          have HC3 : Hid (Chg (fun j => j = w.heap.size + 1) w2 w3) := hide ((unhide HC2).trans (Chg.of hw3))
          clear u2 u4 us ut uv c2 c4 rs rt rv k0 k1 y2 y3 s0 s1 hw3 b0
          go_wp2
          obtain ⟨wq, hwq⟩ : ∃ wq, wq = wr := ⟨_, rfl⟩
          subst hwq
          have s8 : s.size ≤ 8 := by rw [(unhide HSS).1]; exact ((unhide HOK).tab.2.2 _ ((unhide HOK).sh _ (by omega) (by omega))).1
          have kb : k ≤ 100000 := by have := unhide HML; have := unhide HLN2; have := unhide HNN; omega
          have KB := hide kb
          clear kb
          go_loopw [3, 10] (fun v i wr => ∃ q : Nat, q ≤ s.size ∧ i = .int .i64 q ∧ Hid (RSt wr w2.heap.size (w.heap.size + 1) G.n v (meetL (G.met T S k) ((List.range q).map (G.held S (y + 1))))) ∧ Hid (Chg (fun j => j = w.heap.size + 1) w2 wr)) (fun _ i _ => s.size - (intOf i).toNat)
          case atStart => exact ⟨0, Nat.zero_le _, rfl, HRS3, HC3⟩
          case round =>
            obtain ⟨q, hq, rfl, HRS4, HC4⟩ := hrel
            clear HRS3 HC3 HRS2 HC2
            obtain ⟨hG, b0, -⟩ := unhide HG _ (unhide HC4)
            by_cases hqs : q < s.size
            · obtain ⟨r, hr⟩ := meetL_pre ((List.range q).map (G.held S (y + 1))) (G.met T S k)
              have hlen2 : k < (meetL (G.met T S k) ((List.range q).map (G.held S (y + 1)))).length := by rw [hr, List.length_append, ← unhide HLN2]; omega
              have hkx : (meetL (G.met T S k) ((List.range q).map (G.held S (y + 1))))[k]? = some x := by
                rw [hr, List.getElem?_append_left (by rw [← unhide HLN2]; exact hlt), List.getElem?_eq_getElem (by rw [← unhide HLN2]; exact hlt), unhide HXG]
              obtain ⟨gv2, cv2, rfl, -, -, hcell, -⟩ := own_form (unhide HRS4).row (by omega)
              have rv := hcell k (.int .i64 (x : Nat)) (by rw [List.getElem?_map, hkx]; rfl)
              have hmo := meetL_ok (D := fun x => 1 ≤ x ∧ x ≤ G.n) ((List.range q).map (G.held S (y + 1))) (G.met T S k) (unhide HMO).1 (unhide HMO).2 (fun z hz => by
                obtain ⟨f, hf, rfl⟩ := List.mem_map.1 hz
                exact (unhide HIN).held _ (by omega) f (by have := List.mem_range.1 hf; rw [← (unhide HSS).1]; omega))
              have hlM : (meetL (G.met T S k) ((List.range q).map (G.held S (y + 1)))).length ≤ 1000000 := by
                have := len_le hmo.1 (fun z hz => (hmo.2 z hz).2)
                have := unhide HNN
                omega
              have r1 := hG.flds y hyn
              have r2 := hG.fld y q hyn (by rw [← (unhide HSS).1]; exact hqs)
              rw [← (unhide HSS).1] at r1
              have hptr : (s[q]'hqs).toNat = 112 → 0 ≤ G.fl (y + 1) q ∧ G.fl (y + 1) q ≤ G.n ∧ G.held S (y + 1) q = (G.fl (y + 1) q).toNat := fun hb => by
                have hkd : kd (S (G.sh (y + 1))) q = 0 := by rw [← (unhide HSS).1]; exact kd_112 hqs hb
                have := (unhide HOK).ptr (y + 1) q (by omega) (by omega) (by rw [← (unhide HSS).1]; exact hqs) hkd
                exact ⟨this.1, this.2, by unfold Gr.held; rw [if_pos hkd]⟩
              have hnop : ¬ (s[q]'hqs).toNat = 112 → G.held S (y + 1) q = 0 := fun hb => by
                have hkd : ¬ kd (S (G.sh (y + 1))) q = 0 := by
                  rw [← (unhide HSS).1]
                  refine kd_not hqs ?_ hb
                  rw [(unhide HSS).1]
                  exact (unhide HOK).tab.2.2 _ ((unhide HOK).sh _ (by omega) (by omega))
                unfold Gr.held
                rw [if_neg hkd]
              have HPTR := hide hptr
              have HNOP := hide hnop
              generalize G.fl (y + 1) q = V at r2 HPTR
              generalize hM : meetL (G.met T S k) ((List.range q).map (G.held S (y + 1))) = M at *
              have HM := hide hM
              obtain ⟨Lm, hLm⟩ : ∃ Lm, Lm = M.length := ⟨_, rfl⟩
              rw [← hLm] at hlen2 hlM HRS4 ⊢
              have HLM := hide hLm
              have hlM2 : M.length ≤ 1000000 := by omega
              clear hM hLm hptr hnop hmo hcell hkx hr hG
              have k0 : (0 : Int) ≤ (k : Int) := by omega
              have k1 : (k : Int) < (Lm : Int) := by omega
              have y2 : (x : Int) - 1 = (y : Int) := by have := unhide HXY; omega
              have y3 : (y : Int) ≤ 100000 := by have := unhide HNN; omega
              have q0 : (0 : Int) ≤ (q : Int) := by omega
              have q1 : (q : Int) < (s.size : Int) := by omega
              have c5 : wr.cell? ⟨w.heap.size, 5, none⟩ = some (.slice (some ⟨ρ.fb, 0, none⟩) G.n ρ.fc) := Lib.cell_of_heap b0 5
              go_upto_region 20 with fail
              have u5 := Later.cell (block_lt c5) c5
              have us := Later.cell (block_lt r1) r1
              have ut := Later.cell (block_lt r2) r2
              have uv := Later.cell (block_lt rv) rv
              refine wp_region_later wr (by kernel_rfl) (by kernel_rfl) (by repeat (first | exact Below.refl _ _ | assumption | refine Below.alloc ?_ (by first | (simp; done) | (simp; omega) | omega) _ | refine Below.setCell ?_ (by first | (simp; done) | (simp; omega) | omega) _ | apply Below.drew | refine Below.trans ?_ (Below.mono (by assumption) (by first | (simp; done) | (simp; omega) | omega)))) ?_; (repeat (first | go_big_quiet_skip | (go_big_quiet_want; (first | ((fail); go_big_quiet_on; simp only [Act.put, List.setIfInBounds_toArray, List.set_cons_zero, List.set_cons_succ]) | (go_big_quiet_op; (first | go_big_quiet_on | go_big_quiet_call ((fail)))))))); refine wpQuiet_nil ?_
              intro w4 hw4
              have HRS5 := hide ((unhide HRS4).below hw4)
              have HC5 : Hid (Chg (fun j => j = w.heap.size + 1) w2 w4) := hide ((unhide HC4).trans (Chg.of hw4))
              clear u5 us ut uv c5 r1 r2 rv k0 k1 y2 y3 hw4 b0 HRS4 HC4
              by_cases hb : (s[q]'hqs).toNat = 112
              · obtain ⟨v0, v1, v2⟩ := unhide HPTR hb
                obtain ⟨u, rfl⟩ : ∃ u : Nat, V = (u : Int) := ⟨V.toNat, by omega⟩
                have hun : u ≤ G.n := by omega
                rw [Int.toNat_natCast] at v2
                have HX : Hid (u = G.held S (y + 1) q) := hide v2.symm
                clear v0 v1 v2 HPTR HNOP
                by_cases h0 : u = 0
                · subst h0
                  have hz : Hid (meetL (G.met T S k) ((List.range (q + 1)).map (G.held S (y + 1))) = M) := hide (by rw [map_snoc, ← unhide HX, meetL_old (.inl rfl)]; exact unhide HM)
                  go_wp2
                  go_roundw
                  case measure => simp [intOf]; omega
                  case rel => exact ⟨q + 1, by omega, by go_num, by rw [unhide hz]; exact HRS5, HC5⟩
                · have x0 : ¬ (u : Int) = 0 := by omega
                  have x1 : (0 : Int) ≤ (u : Int) := by omega
                  have x2 : (u : Int) < (G.n : Int) + 1 := by omega
                  obtain ⟨se, sf⟩ := (unhide HRS5).at hun
                  by_cases hm : u ∈ M
                  · rw [decide_eq_true hm] at se
                    have hz : Hid (meetL (G.met T S k) ((List.range (q + 1)).map (G.held S (y + 1))) = M) := hide (by rw [map_snoc, ← unhide HX, meetL_old (.inr (by rw [unhide HM]; exact hm))]; exact unhide HM)
                    go_wp2
                    go_roundw
                    case measure => simp [intOf]; omega
                    case rel => exact ⟨q + 1, by omega, by go_num, by rw [unhide hz]; exact HRS5, HC5⟩
                  · rw [decide_eq_false hm] at se
                    have hz : Hid (meetL (G.met T S k) ((List.range (q + 1)).map (G.held S (y + 1))) = M ++ [u]) := hide (by rw [map_snoc, ← unhide HX, meetL_new h0 (by rw [unhide HM]; exact hm), unhide HM])
                    have hle := (unhide HRS5).le
                    obtain ⟨hi, hz0, hz1, hz3⟩ := unhide INT
                    go_wp2_with (at_builtin; refine wpList_append_own _ rfl (.tmp 114) (.tmp 116) _ rfl w2.heap.size 3 i0 (.int .i64 0) 1 8 Try.underlying46 hi hz0 hz1 hz3 rfl (by decide) _ _ _ rfl (((unhide HRS5).set u).alloc _) ⟨w4.heap.size, 0, none⟩ 1 1 [.int .i64 (u : Int)] rfl rfl ?c1 ?c2 ?c3 ?c4 ?c5 ?_)
                    case c1 => exact fun j e h => by rw [← World.size_setCell w4 ⟨w.heap.size + 1, u, none⟩ (.bool true)]; exact one_newP _ _ _ j e h
                    case c2 => simp [Value.oneCell']
                    case c3 => simp only [maxLen]; omega
                    case c4 => omega
                    case c5 => simp; omega
                    intro v' w5 how hgr _
                    obtain ⟨hR5, hC5⟩ := (unhide HRS5).more hun how hgr (Nat.le_refl _) (unhide HC5)
                    have HR5 := hide hR5
                    have HC5 := hide hC5
                    clear how hgr hR5 hC5 hi hz0 hz1 hz3
                    go_wp2
                    go_roundw
                    case measure => simp [intOf]; omega
                    case rel => exact ⟨q + 1, by omega, by go_num, by rw [unhide hz]; exact HR5, HC5⟩
              · have h0 := unhide HNOP hb
                have hz : Hid (meetL (G.met T S k) ((List.range (q + 1)).map (G.held S (y + 1))) = M) := hide (by rw [map_snoc, h0, meetL_old (.inl rfl)]; exact unhide HM)
                clear h0 HPTR HNOP
                go_wp2
                go_roundw
                case measure => simp [intOf]; omega
                case rel => exact ⟨q + 1, by omega, by go_num, by rw [unhide hz]; exact HRS5, HC5⟩
            · obtain rfl : q = s.size := by omega
              have hst : Hid (meetL (G.met T S k) ((List.range s.size).map (G.held S (y + 1))) = G.met T S (k + 1) ∧ k + 1 ≤ (G.met T S (k + 1)).length) := hide (by
                have e1 : G.met T S (k + 1) = G.step S (G.met T S k) k := rfl
                have hl2 : k < (G.met T S k).length := by rw [← unhide HLN2]; exact hlt
                rw [step_new _ _ hl2, getD_at hl2, ← unhide HXG, unhide HXY] at e1
                refine ⟨by rw [e1, (unhide HSS).1]; rfl, ?_⟩
                rw [e1]
                obtain ⟨r, hr⟩ := meetL_pre (G.kids S (y + 1)) (G.met T S k)
                rw [hr, List.length_append]
                omega)
              have hkb := unhide KB
              have hmea : k < G.n := by have := unhide HML; have := unhide HLN2; omega
              clear hG b0
              go_wp2
              go_roundw
              case measure => simp [intOf]; omega
              case rel => exact ⟨k + 1, (unhide hst).2, by go_num, by rw [← (unhide hst).1]; exact HRS4, HC4⟩
        · have hkl : k = (G.met T S k).length := by omega
          have hrch := met_reach (unhide HIN) k hkl
          obtain ⟨Av, cv, rfl⟩ := row_sl (unhide HRS2).row
          rw [← hkl] at HRS2 ⊢
          have HEND : Hid (∃ v, Ending.returned (Value.slice Av k cv) = .returned v ∧ wr.ownsRow w.heap.size 3 1 v (G.reach T S).length ((G.reach T S).map fun x => .int .i64 (x : Nat)) ∧ Below w.heap.size w wr) := hide ⟨_, rfl, by rw [← hrch]; exact row_mono (unhide HRS2).row (by omega), hB2.trans (Chg.below (unhide HC2) (fun i hi => by have hi : i = w.heap.size + 1 := hi; omega) (by omega))⟩
          clear hkl hrch hG b0 hsh
          go_wp2
          go_ret
          exact unhide HEND
end
end Go.Proofs.Ytbkaopeajjechaa

namespace Go.Proofs.Ytbkaopeajjechaa
set_option linter.unusedVariables false
set_option linter.unusedSimpArgs false
open Go.RowKit Go.Maps
section
variable {T : Nat} {sp : Int} {A : Option Addr} {len cap : Nat} {S : Nat → ByteArray} {w : World} {ρ : RLay} {G : Gr}

theorem w64 {n : Int} (h0 : 0 ≤ n) (h1 : n < 9223372036854775807) : wrap64 n = n := by unfold wrap64; omega

/-- The numbers of the first objects. -/
def NumSt (W : World) (nb n : Nat) (R : List Nat) (k : Nat) : Prop := ∃ cs, W.heap[nb]? = some (.cells cs 3 (0, 0)) ∧ ∀ x, x ≤ n → cs[x]? = some (.int .i64 (if x ∈ R.take k then (R.idxOf x : Int) + 1 else 0))

theorem NumSt.at {W : World} {nb n k : Nat} {R : List Nat} (h : NumSt W nb n R k) {x : Nat} (hx : x ≤ n) : W.cell? ⟨nb, x, none⟩ = some (.int .i64 (if x ∈ R.take k then (R.idxOf x : Int) + 1 else 0)) ∧ W.frozen? ⟨nb, x, none⟩ = false := by
  obtain ⟨cs, h1, h2⟩ := h
  exact ⟨(Lib.cell_of_heap h1 x).trans (h2 x hx), by simp [World.frozen?, h1]⟩

theorem take_succ_mem {R : List Nat} {k x : Nat} (h : k < R.length) : x ∈ R.take (k + 1) ↔ x ∈ R.take k ∨ x = R[k] := by
  rw [List.take_succ_eq_append_getElem h, List.mem_append, List.mem_singleton]

theorem NumSt.more {W : World} {nb n k : Nat} {R : List Nat} (h : NumSt W nb n R k) (hk : k < R.length) (hn : R.Nodup) (hx : R[k] ≤ n) : NumSt (W.setCell ⟨nb, R[k], none⟩ (.int .i64 ((k : Int) + 1))) nb n R (k + 1) := by
  obtain ⟨cs, h1, h2⟩ := h
  refine ⟨_, heap_setCell_same W nb _ _ _ _ h1, fun y hy => ?_⟩
  rw [Array.getElem?_setIfInBounds]
  have hl : R[k] < cs.size := (Array.getElem?_eq_some_iff.1 (h2 _ hx)).1
  by_cases e : R[k] = y
  · subst e
    rw [if_pos rfl, if_pos hl, if_pos ((take_succ_mem hk).2 (.inr rfl)), hn.idxOf_getElem]
  · rw [if_neg e, h2 y hy]
    have : (y ∈ R.take (k + 1)) = (y ∈ R.take k) := propext ⟨fun h => ((take_succ_mem hk).1 h).resolve_right (fun e' => e e'.symm), fun h => (take_succ_mem hk).2 (.inl h)⟩
    simp only [this]

theorem NumSt.nidx {W : World} {nb n : Nat} {R : List Nat} (h : NumSt W nb n R R.length) (h0 : 0 ∉ R) {x : Nat} (hx : x ≤ n) (hm : x = 0 ∨ x ∈ R) : W.cell? ⟨nb, x, none⟩ = some (.int .i64 (nidx R x)) := by
  rw [(h.at hx).1, List.take_length]
  unfold Go.Proofs.Ytbkaopeajjechaa.nidx
  rcases hm with hm | hm
  · subst hm
    rw [if_neg h0, if_pos rfl]
  · rw [if_pos hm, if_neg (fun e => h0 (by rw [← e]; exact hm))]

theorem LLo.keepT {base : Nat} {W V : World} {v : Value} {L : List (List Int)} {t0 : TypeId} (h : LLo base W v L) (hk : ∀ (b : Nat) c t, W.heap[b]? = some (Obj.cells c t (0, 0)) → t ≠ t0 → V.heap[b]? = W.heap[b]?) (h1 : 46 ≠ t0) (h2 : 3 ≠ t0) : LLo base V v L := by
  obtain ⟨xs, ho, hl, hx⟩ := h
  refine ⟨xs, ⟨ho.1, ?_⟩, hl, fun t l ht => ?_⟩
  · rcases ho.2 with e | ⟨g, c, cur, e1, e2, e3, e4⟩
    · exact .inl e
    · exact .inr ⟨g, c, cur, e1, e2, (hk g _ _ e3 h1).trans e3, e4⟩
  · obtain ⟨u, e1, e2⟩ := hx t l ht
    exact ⟨u, e1, e2.keep (fun b cur e => hk b _ _ e h2)⟩

theorem NLo.keepN {base : Nat} {W V : World} {v : Value} {L : List (Int × List Int)} {t0 : TypeId} (h : NLo base W v L) (hk : ∀ (b : Nat) c t, W.heap[b]? = some (Obj.cells c t (0, 0)) → t ≠ t0 → V.heap[b]? = W.heap[b]?) (h1 : 97 ≠ t0) (h2 : 2 ≠ t0) : NLo base V v L := by
  obtain ⟨xs, ho, hl, hx⟩ := h
  refine ⟨xs, ⟨ho.1, ?_⟩, hl, fun t l ht => ?_⟩
  · rcases ho.2 with e | ⟨g, c, cur, e1, e2, e3, e4⟩
    · exact .inl e
    · exact .inr ⟨g, c, cur, e1, e2, (hk g _ _ e3 h1).trans e3, e4⟩
  · obtain ⟨e0, u, e1, e2⟩ := hx t l ht
    exact ⟨e0, u, e1, e2.keep (fun b cur e => hk b _ _ e h2)⟩

set_option maxRecDepth 100000 in
theorem inf_nd : ∃ i : TypeInfo, Try.prog.info? 97 = some i ∧ i.zero = some (.agg #[.int .i64 0, .slice none 0 0]) ∧ i.size = 2 ∧ i.bytes = 32 := ⟨_, rfl, rfl, rfl, rfl⟩

set_option maxRecDepth 100000 in
set_option maxHeartbeats 4000000 in
theorem rView_any (H : IsR T S w ρ G) (HS : ShOk w A len S) (hok : G.Ok len S T) (hT0 : 1 ≤ T) (hT : T ≤ 8) (hn0 : 1 ≤ G.n) (hn : G.n ≤ 100000) (hlen : len ≤ 1000000) :
    Calls Try.prog 21 #[rV T sp A len cap ρ G.n] w fun e w' => ∃ v, e = .returned v ∧ RdVw w' v (G.view T S) ∧ Below w.heap.size w w' := by
  obtain ⟨ga, oa, rfl, hgl, hcs⟩ := id (HS (by have := hok.tab.1; omega))
  have HI := hide H
  have HIN := hide hok.isIn
  have HOK := hide hok
  have HSH := hide hcs
  have HSW := hide HS
  clear H hcs hok HS
  obtain ⟨i2, mi, mz0, mz1, mz2⟩ := inf_i
  obtain ⟨mc, hmc⟩ : ∃ mc, mc = madeCells (Value.int .i64 0).cells ((G.n + 1) * 1) := ⟨_, rfl⟩
  have hmk : ∀ W, (Instr.makeSlice 46 (.int .i64 ((G.n : Int) + 1)) (.int .i64 ((G.n : Int) + 1))).run Try.prog W = .ok (.slice (some ⟨W.heap.size, 0, none⟩) (G.n + 1) (G.n + 1)) (W.alloc (.cells mc 3)) := fun W => by
    rw [show ((G.n : Int) + 1) = ((G.n + 1 : Nat) : Int) from rfl, run_make_rowN (P := Try.prog) 46 3 i2 _ Try.underlying46 mi mz0 .i64 .i64 (G.n + 1) (G.n + 1) (Nat.le_refl _) (by rw [mz2]; omega) (by omega) W, mz1, hmc]
  have hmz : ∀ x, x ≤ G.n → mc[x]? = some (.int .i64 0) := fun x hx => by
    rw [hmc, Nat.mul_one]
    show (madeCells #[Value.int .i64 0] (G.n + 1))[x]? = _
    rw [← Array.getElem?_toList, toList_madeCells_one, List.getElem?_replicate, if_pos (by omega)]
  have HMZ := hide hmz
  clear hmc mi mz0 mz1 mz2 hmz
  have HCR := hide (fun W (hW : Below w.heap.size w W) => rReach_any (sp := sp) (cap := cap) ((unhide HI).below hW) ((unhide HSW).keep hW) (unhide HOK) hT0 hT hn0 hn hlen)
  unfold rV at HCR ⊢
  have hro := reach_ok (unhide HIN)
  have hrl := reach_len (unhide HIN)
  have hrr : ∀ t s, t < T → s < 6 → G.root t s = 0 ∨ G.root t s ∈ G.reach T S := fun t s ht hs => by
    by_cases e : G.root t s = 0
    · exact .inl e
    · exact .inr (reach_root ht hs e)
  have hrh : ∀ x ∈ G.reach T S, ∀ f, f < (S (G.sh x)).size → G.held S x f = 0 ∨ G.held S x f ∈ G.reach T S := fun x hx f hf => by
    by_cases e : G.held S x f = 0
    · exact .inl e
    · exact .inr (reach_held (unhide HIN) hx hf e)
  have hvw : G.view T S = ((List.range T).map (vrow (G.reach T S) G), (G.reach T S).map (vnode S (G.reach T S) G)) := rfl
  rw [hvw]
  generalize G.reach T S = R at *
  have HRO := hide hro
  have HRL := hide hrl
  have HRR := hide hrr
  have HRH := hide hrh
  clear hro hrl hrr hrh hvw
  go_enter Try.func21, Try.ntmps21
  have gn : (0 : Int) ≤ (G.n : Int) + 1 := by omega
  have gn2 : (G.n : Int) + 1 ≤ 100001 := by omega
  go_upto_region 1 with fail
  refine wp_gen ?_
  intro w1 hw1
  have a0 : w1.heap[w.heap.size]? = some (.cells #[.int .i64 (T : Int), .int .i64 sp, .slice (some ⟨ga, oa, none⟩) len cap, .slice (some ⟨ρ.rb, 0, none⟩) T ρ.rc, .slice (some ⟨ρ.sb, 0, none⟩) G.n ρ.sc, .slice (some ⟨ρ.fb, 0, none⟩) G.n ρ.fc] 49 (0, 0)) := by
    rw [hw1, heap_alloc_old _ _ _ (by simp)]
    exact heap_alloc_new _ _
  have a1 : w1.heap[w.heap.size + 1]? = some (.cells #[.slice none 0 0, .slice none 0 0] 56 (0, 0)) := by
    rw [hw1, ← World.size_alloc w (.cells #[.int .i64 (T : Int), .int .i64 sp, .slice (some ⟨ga, oa, none⟩) len cap, .slice (some ⟨ρ.rb, 0, none⟩) T ρ.rc, .slice (some ⟨ρ.sb, 0, none⟩) G.n ρ.sc, .slice (some ⟨ρ.fb, 0, none⟩) G.n ρ.fc] 49)]
    exact heap_alloc_new _ _
  have hz1 : w1.heap.size = w.heap.size + 2 := by rw [hw1]; simp
  have hB1 : Below w.heap.size w w1 := by rw [hw1]; repeat (first | exact Below.refl _ _ | assumption | refine Below.alloc ?_ (by first | (simp; done) | (simp; omega) | omega) _ | refine Below.setCell ?_ (by first | (simp; done) | (simp; omega) | omega) _ | apply Below.drew | refine Below.trans ?_ (Below.mono (by assumption) (by first | (simp; done) | (simp; omega) | omega)))
  clear hw1
  have hz1' := Nat.le_of_eq hz1
  have hz1'' := Nat.le_of_eq hz1.symm
  clear hz1
  have c0 : w1.cell? ⟨w.heap.size, 0, none⟩ = some (.int .i64 (T : Int)) := Lib.cell_of_heap a0 0
  have c1 : w1.cell? ⟨w.heap.size, 1, none⟩ = some (.int .i64 sp) := Lib.cell_of_heap a0 1
  have c2 : w1.cell? ⟨w.heap.size, 2, none⟩ = some (.slice (some ⟨ga, oa, none⟩) len cap) := Lib.cell_of_heap a0 2
  have c3 : w1.cell? ⟨w.heap.size, 3, none⟩ = some (.slice (some ⟨ρ.rb, 0, none⟩) T ρ.rc) := Lib.cell_of_heap a0 3
  have c4 : w1.cell? ⟨w.heap.size, 4, none⟩ = some (.slice (some ⟨ρ.sb, 0, none⟩) G.n ρ.sc) := Lib.cell_of_heap a0 4
  have c5 : w1.cell? ⟨w.heap.size, 5, none⟩ = some (.slice (some ⟨ρ.fb, 0, none⟩) G.n ρ.fc) := Lib.cell_of_heap a0 5
  go_wp2_with fail
  refine (unhide HCR _ hB1).mono ?_
  rintro e w3 ⟨v, rfl, hrow, hb3⟩
  clear c0 c1 c2 c3 c4 c5 HCR
  obtain ⟨Av, cv, rfl⟩ := row_sl hrow
  have hz3 := hb3.size
  have HRV : Hid (∀ i (h : i < R.length), ∃ g, Av = some ⟨g, 0, none⟩ ∧ g < w3.heap.size ∧ w3.cell? ⟨g, i, none⟩ = some (.int .i64 (R[i] : Nat))) := hide (fun i h => by
    obtain ⟨g, c, e1, e2, e3, e4, -⟩ := own_form hrow (by omega)
    injection e1 with e1 _ _
    exact ⟨g, e1, e3, e4 i _ (by rw [List.getElem?_map, List.getElem?_eq_getElem h]; rfl)⟩)
  have hBw3 : Below w.heap.size w w3 := hB1.trans (hb3.mono (by omega))
  have HG : Hid (∀ W, Below w3.heap.size w3 W → IsR T S W ρ G ∧ W.heap[w.heap.size]? = some (.cells #[.int .i64 (T : Int), .int .i64 sp, .slice (some ⟨ga, oa, none⟩) len cap, .slice (some ⟨ρ.rb, 0, none⟩) T ρ.rc, .slice (some ⟨ρ.sb, 0, none⟩) G.n ρ.sc, .slice (some ⟨ρ.fb, 0, none⟩) G.n ρ.fc] 49 (0, 0)) ∧ W.heap[w.heap.size + 1]? = some (.cells #[.slice none 0 0, .slice none 0 0] 56 (0, 0)) ∧ ∀ i, i < len → W.cell? ⟨ga, oa + i, none⟩ = some (.string (S i))) := hide (fun W hW =>
    ⟨((unhide HI).below hBw3).below hW, (hW.block _ (by omega)).trans ((hb3.block _ (by omega)).trans a0), (hW.block _ (by omega)).trans ((hb3.block _ (by omega)).trans a1), fun i hi => cell_below hW (cell_below hBw3 (unhide HSH i hi))⟩)
  clear hrow a0 a1
  obtain ⟨-, b0, -, -⟩ := unhide HG _ (Below.refl _ _)
  have c4 : w3.cell? ⟨w.heap.size, 4, none⟩ = some (.slice (some ⟨ρ.sb, 0, none⟩) G.n ρ.sc) := Lib.cell_of_heap b0 4
  clear b0
  go_upto_region 3 with fail
  refine wp_gen ?_
  intro wA hwA
  have HBA : Hid (Below w3.heap.size w3 wA) := hide (by rw [hwA]; repeat (first | exact Below.refl _ _ | assumption | refine Below.alloc ?_ (by first | (simp; done) | (simp; omega) | omega) _ | refine Below.setCell ?_ (by first | (simp; done) | (simp; omega) | omega) _ | apply Below.drew | refine Below.trans ?_ (Below.mono (by assumption) (by first | (simp; done) | (simp; omega) | omega))))
  have HN0 : Hid (NumSt wA w3.heap.size G.n R 0) := hide ⟨mc, by rw [hwA]; exact heap_alloc_new _ _, fun x hx => by rw [unhide HMZ x hx]; simp⟩
  clear hwA hmk gn gn2 c4
  have HNN := hide hn
  clear hn hlen
  go_wp2
  go_loopw [5] (fun i wr => ∃ k : Nat, k ≤ R.length ∧ i = .int .i64 k ∧ Hid (NumSt wr w3.heap.size G.n R k) ∧ Hid (Below w3.heap.size w3 wr)) (fun i _ => R.length - (intOf i).toNat)
  case atStart => exact ⟨0, Nat.zero_le _, rfl, HN0, HBA⟩
  case round =>
    obtain ⟨k, hk, rfl, HN, HB⟩ := hrel
    clear HN0 HBA
    have hkb : k ≤ 100000 := by have := unhide HRL; have := unhide HNN; omega
    by_cases hlt : k < R.length
    · obtain ⟨g, rfl, hgs, hgv⟩ := unhide HRV k hlt
      have hgv := cell_below (unhide HB) hgv
      have hxD := ((unhide HRO).2 _ (List.getElem_mem hlt)).2
      have hN := (unhide HN).at hxD.2
      have hmo := hide ((unhide HN).more hlt (unhide HRO).1 hxD.2)
      obtain ⟨x, hx⟩ : ∃ x, x = R[k] := ⟨_, rfl⟩
      rw [← hx] at hgv hxD hN hmo
      clear hx
      obtain ⟨e1, e2⟩ := hN
      have k0 : (0 : Int) ≤ (k : Int) := by omega
      have k1 : (k : Int) < (R.length : Int) := by omega
      have x0 : (0 : Int) ≤ (x : Int) := by omega
      have x1 : (x : Int) < (G.n : Int) + 1 := by omega
      have hB9 : Hid (Below w3.heap.size w3 (wr.setCell ⟨w3.heap.size, x, none⟩ (.int .i64 ((k : Int) + 1)))) := hide (Below.setCell (unhide HB) (Nat.le_refl _) _)
      clear hxD
      go_wp2
      go_roundw
      case measure => simp [intOf]; omega
      case rel => exact ⟨k + 1, by omega, by go_num, hmo, hB9⟩
    · obtain rfl : k = R.length := by omega
      obtain ⟨wN, hwN⟩ : ∃ wN, wN = wr := ⟨_, rfl⟩
      subst hwN
      have hzN := (unhide HB).size
      go_upto_region 8 with fail
      refine wp_gen ?_
      intro wV hwV
      have v0 : wV.heap[wN.heap.size]? = some (.cells #[.slice none 0 0, .slice none 0 0] 56 (0, 0)) := by rw [hwV]; exact heap_alloc_new _ _
      have hzV : wN.heap.size < wV.heap.size := by rw [hwV]; simp
      have hbV : Below wN.heap.size wN wV := by rw [hwV]; repeat (first | exact Below.refl _ _ | assumption | refine Below.alloc ?_ (by first | (simp; done) | (simp; omega) | omega) _ | refine Below.setCell ?_ (by first | (simp; done) | (simp; omega) | omega) _ | apply Below.drew | refine Below.trans ?_ (Below.mono (by assumption) (by first | (simp; done) | (simp; omega) | omega)))
      have HBV := hide ((unhide HB).trans (hbV.mono hzN))
      have HNV : Hid (NumSt wV w3.heap.size G.n R R.length) := by
        obtain ⟨cs, e1, e2⟩ := unhide HN
        exact hide ⟨cs, (hbV.block _ (Array.getElem?_eq_some_iff.1 e1).1).trans e1, e2⟩
      have hnb : w3.heap.size < wN.heap.size := by
        obtain ⟨cs, e1, e2⟩ := unhide HN
        exact (Array.getElem?_eq_some_iff.1 e1).1
      clear hwV hbV
      generalize hvb : wN.heap.size = vb at *
      have HGV : Hid (∀ W, Chg (fun j => j = vb) wV W → Below w3.heap.size w3 W ∧ NumSt W w3.heap.size G.n R R.length) := hide (fun W hW => ⟨(unhide HBV).trans (Chg.below hW (fun i hi => by have hi : i = vb := hi; omega) (by omega)), by
        obtain ⟨cs, e1, e2⟩ := unhide HNV
        exact ⟨cs, (hW.block _ (Array.getElem?_eq_some_iff.1 e1).1 (by omega)).trans e1, e2⟩⟩)
      have hvL : LLo wV.heap.size wV (.slice none 0 0) ((List.range 0).map (vrow R G)) := ⟨[], World.ownsRow_nil _ _ _ _, rfl, fun t l h => by simp at h⟩
      have HVL := hide hvL
      have HV0 := hide v0
      have HC3R : Hid (∀ W, Chg (fun j => j = vb) wV W → ∀ j, j < T → W.cell? ⟨w.heap.size, 3, none⟩ = some (.slice (some ⟨ρ.rb, 0, none⟩) T ρ.rc) ∧ W.cell? ⟨ρ.rb, j, none⟩ = some (.slice (some ⟨ρ.rh j, 0, none⟩) 6 (ρ.rhc j))) := hide (fun W hW j hj => by
        obtain ⟨hG, b0, -, -⟩ := unhide HG _ (unhide HGV _ hW).1
        exact ⟨Lib.cell_of_heap b0 3, hG.rows j hj⟩)
      clear hvb HN HB hvL v0 hkb
      obtain ⟨i0, hi, hz0, hz1b, hz2b⟩ := inf_i
      have INT := hide (show _ ∧ _ ∧ _ ∧ _ from ⟨hi, hz0, hz1b, hz2b⟩)
      obtain ⟨i1, ki, kz0, kz1, kz2⟩ := inf_is
      have INS := hide (show _ ∧ _ ∧ _ ∧ _ from ⟨ki, kz0, kz1, kz2⟩)
      clear hi hz0 hz1b hz2b ki kz0 kz1 kz2
      go_wp2
      go_loopw [7] (fun i wr => ∃ k : Nat, k ≤ T ∧ i = .int .i64 k ∧ Hid (∃ rv, wr.heap[vb]? = some (.cells #[rv, .slice none 0 0] 56 (0, 0)) ∧ LLo wV.heap.size wr rv ((List.range k).map (vrow R G))) ∧ Hid (Chg (fun j => j = vb) wV wr)) (fun i _ => T - (intOf i).toNat)
      case atStart => exact ⟨0, Nat.zero_le _, rfl, hide ⟨_, unhide HV0, unhide HVL⟩, hide (Chg.refl _ _)⟩
      case round =>
        obtain ⟨j, hj, rfl, hLo, hCz⟩ := hrel
        clear HV0 HVL
        have hzr := (unhide hCz).size
        obtain ⟨hB3, -⟩ := unhide HGV _ (unhide hCz)
        obtain ⟨-, b0, -, -⟩ := unhide HG _ hB3
        have c3 : wr.cell? ⟨w.heap.size, 3, none⟩ = some (.slice (some ⟨ρ.rb, 0, none⟩) T ρ.rc) := Lib.cell_of_heap b0 3
        clear b0 hB3
        by_cases hlt : j < T
        · have d0 : (0 : Int) ≤ (j : Int) := by omega
          have d1 : (j : Int) < (T : Int) := by omega
          go_wp2
          clear c3
          obtain ⟨wo, hwo⟩ : ∃ wo, wo = wr := ⟨_, rfl⟩
          subst hwo
          go_loopw [8, 9] (fun l c wr => ∃ q : Nat, q ≤ 6 ∧ c = .int .i64 q ∧ Hid (wr.ownsRow wo.heap.size 3 1 l q ((List.range q).map fun s => Value.int .i64 (nidx R (G.root j s)))) ∧ Hid (Below wo.heap.size wo wr)) (fun _ c _ => 6 - (intOf c).toNat)
          case atStart => exact ⟨0, by omega, rfl, hide (World.ownsRow_nil _ _ _ _), hide (Below.refl _ _)⟩
          case round =>
            obtain ⟨q, hq, rfl, hOw, hBz⟩ := hrel
            have hzz2 := (unhide hBz).size
            have hCr : Chg (fun b => b = vb) wV wr := (unhide hCz).trans (Chg.of (unhide hBz))
            obtain ⟨hB3, hNu⟩ := unhide HGV _ hCr
            obtain ⟨hG, b0, -, -⟩ := unhide HG _ hB3
            have c3 : wr.cell? ⟨w.heap.size, 3, none⟩ = some (.slice (some ⟨ρ.rb, 0, none⟩) T ρ.rc) := Lib.cell_of_heap b0 3
            have rk := hG.rows j hlt
            by_cases hq6 : q < 6
            · have q0 : (0 : Int) ≤ (q : Int) := by omega
              have q1 : (q : Int) < 6 := by omega
              have rx := hG.root j q hlt hq6
              have hxn : G.root j q ≤ G.n := (unhide HOK).root j q hlt hq6
              have rn := hNu.nidx (fun h => ((unhide HRO).2 0 h).1 rfl) hxn (unhide HRR j q hlt hq6)
              have hnx : Hid ((List.range (q + 1)).map (fun s => Value.int .i64 (nidx R (G.root j s))) = (List.range q).map (fun s => Value.int .i64 (nidx R (G.root j s))) ++ [.int .i64 (nidx R (G.root j q))]) := hide (map_snoc _ _)
              generalize nidx R (G.root j q) = nx at rn hnx
              generalize G.root j q = x at rx rn hxn
              have x0 : (0 : Int) ≤ (x : Int) := by omega
              have x1 : (x : Int) < (G.n : Int) + 1 := by omega
              clear hG b0 hB3 hNu hCr
              obtain ⟨hi, hz0, hz1', hz2⟩ := unhide INT
              go_wp2_with (at_builtin; refine wpList_append_own _ rfl (.tmp 53) (.tmp 65) _ rfl wo.heap.size 3 i0 (.int .i64 0) 1 8 Try.underlying46 hi hz0 hz1' hz2 rfl (by decide) _ _ _ rfl ((unhide hOw).alloc _) ⟨wr.heap.size, 0, none⟩ 1 1 [.int .i64 nx] rfl rfl ?c1 ?c2 ?c3 ?c4 ?c5 ?_)
              case c1 => exact one_newP _ _ _
              case c2 => simp [Value.oneCell']
              case c3 => simp only [maxLen]; omega
              case c4 => omega
              case c5 => simp; omega
              intro v' w5 how hgr _
              have HO' := hide how
              have HB' : Hid (Below wo.heap.size wo w5) := hide (((unhide hBz).alloc hzz2 _).grown hgr (by simp; omega) (fun r hr => ((unhide hOw).lt r hr).1))
              clear how hgr hi hz0 hz1' hz2
              go_wp2
              go_roundw
              case measure => simp [intOf]; omega
              case rel => exact ⟨q + 1, by omega, by go_num, by rw [unhide hnx]; exact HO', HB'⟩
            · obtain rfl : q = 6 := by omega
              clear c3 rk hG b0 hB3 hNu
              have hBo : Below wo.heap.size wo wr := unhide hBz
              obtain ⟨rv, hrv, hLL⟩ := unhide hLo
              have hrd := RdI.of_row (t := 3) (l := vrow R G j) (by
                have := unhide hOw
                unfold vrow
                rw [List.length_map, List.length_range, List.map_map]
                exact this)
              have h6 : (vrow R G j).length = 6 := by simp [vrow]
              obtain ⟨A9, c9, hl9, hrdj⟩ := id hrd
              rw [h6] at hl9
              subst hl9
              obtain ⟨xs, ho, hxl, hx⟩ := hLL.grown (grown_below hBo none) (by cases rv.ownBlock <;> simp) (fun r e => by cases e)
              rw [List.length_map, List.length_range] at ho hxl
              have hb2 := (hBo.block vb (by omega)).trans hrv
              have c2 : wr.cell? ⟨vb, 0, none⟩ = some rv := by rw [Lib.cell_of_heap hb2]; rfl
              have r0 := (unhide HC3R) wr hCr j hlt
              obtain ⟨ki, kz0, kz1, kz2⟩ := unhide INS
              have hRD := hide hrd
              have HX := hide hx
              have HB2 := hide hb2
              have HOX := hide ho
              have HXL := hide hxl
              have HBO := hide hBo
              clear hrd hrdj hx hb2 ho hrv hLL hBo h6 hxl hCr
              obtain ⟨c3, rk⟩ := r0
              go_wp2_with (at_builtin; refine wpList_append_own _ rfl (.tmp 68) (.tmp 70) _ rfl wV.heap.size 46 i1 (.slice none 0 0) 1 24 Try.underlying45 ki kz0 kz1 kz2 rfl (by decide) _ _ _ rfl ((unhide HOX).alloc _) ⟨wr.heap.size, 0, none⟩ 1 1 [.slice A9 6 c9] rfl rfl ?c1 ?c2 ?c3 ?c4 ?c5 ?_)
              case c1 => exact one_newP _ _ _
              case c2 => simp [Value.oneCell']
              case c3 => simp only [maxLen]; omega
              case c4 => omega
              case c5 => simp; omega
              intro v' w5 how hgr _
              have hlj : ((List.range j).map (vrow R G)).length = j := by simp
              have hba : Below wr.heap.size wr (wr.alloc (.cells #[.slice A9 6 c9] 46)) := by repeat (first | exact Below.refl _ _ | assumption | refine Below.alloc ?_ (by first | (simp; done) | (simp; omega) | omega) _ | refine Below.setCell ?_ (by first | (simp; done) | (simp; omega) | omega) _ | apply Below.drew | refine Below.trans ?_ (Below.mono (by assumption) (by first | (simp; done) | (simp; omega) | omega)))
              have hL5 : LLo wV.heap.size w5 v' ((List.range j).map (vrow R G) ++ [vrow R G j]) := LLo.more (by rw [hlj]; exact (unhide HOX).alloc _) (by rw [hlj]; exact unhide HXL) (fun t l ht => by
                obtain ⟨u, e1, e2⟩ := unhide HX t l ht
                exact ⟨u, e1, e2.below hba⟩) (by rw [hlj]; exact how) hgr ((unhide hRD).below hba)
              have hb5 : w5.heap[vb]? = some (Obj.cells #[rv, .slice none 0 0] 56 (0, 0)) := (hgr.block vb (by simp; omega) (fun e => by
                have h1 := ((unhide HOX).lt vb (by first | exact e | exact e.symm)).1
                omega)).trans ((hba.block vb (by omega)).trans (unhide HB2))
              have hz5 := hgr.size
              simp only [World.size_alloc] at hz5
              have hC5 : Chg (fun b => b = vb) wV w5 := by
                have h1 : Chg (fun b => b = vb) wV (wr.alloc (.cells #[.slice A9 6 c9] 46)) := ((unhide hCz).trans (Chg.of (unhide HBO))).alloc _
                exact ⟨hgr.os.trans h1.os, hgr.tape.trans h1.tape, hgr.output.trans h1.output, Nat.le_trans h1.size hgr.size, fun i hi hne => (hgr.block i (Nat.lt_of_lt_of_le hi h1.size) (fun e => by
                  have h2 := ((unhide HOX).lt i (by first | exact e | exact e.symm)).1
                  omega)).trans (h1.block i hi hne)⟩
              have hl5 : ∀ r, v'.ownBlock = some r → wV.heap.size ≤ r := fun r hr => (how.lt r hr).1
              obtain ⟨A7, n7, c7, rfl⟩ : ∃ A n c, v' = .slice A n c := by
                rcases how.2 with ⟨e, _⟩ | ⟨g9, c9, _, e, _⟩
                · exact ⟨_, _, _, e⟩
                · exact ⟨_, _, _, e⟩
              have hL6 := hL5.grown (set_grown w5 vb 0 (.slice A7 n7 c7)) (by
                cases e : (Value.slice A7 n7 c7).ownBlock with
                | none => exact .inr rfl
                | some r => exact .inl (fun h => by
                    injection h with h
                    have := hl5 r e
                    omega)) (fun r e cur h => by
                injection e with e
                subst e
                rw [hb5] at h
                injection h with h
                injection h with _ h _
                exact absurd h (by decide))
              have c5 : w5.cell? ⟨vb, 0, none⟩ = some rv := by rw [Lib.cell_of_heap hb5]; rfl
              have f5 : w5.frozen? ⟨vb, 0, none⟩ = false := by simp [World.frozen?, hb5]
              have hst := heap_setCell_same w5 vb 0 _ _ (.slice A7 n7 c7) hb5
              have HL6 := hide hL6
              have HC5 := hide hC5
              have HST := hide hst
              clear hL5 hL6 hC5 hst hb5 how hgr hba hlj hl5 ki kz0 kz1 kz2 c2 c3 rk
              go_wp2
              go_roundw
              case measure => simp [intOf]; omega
              case rel =>
                refine ⟨j + 1, by omega, by go_num, hide ⟨.slice A7 n7 c7, (unhide HST).trans (by simp), ?_⟩, hide ((unhide HC5).set (.inr rfl) _)⟩
                rw [List.range_succ, List.map_append]
                exact unhide HL6
        · obtain rfl : T = j := by omega
          have d2 : ¬ (T : Int) < (T : Int) := by omega
          obtain ⟨wL, hwL⟩ : ∃ wL, wL = wr := ⟨_, rfl⟩
          subst hwL
          obtain ⟨ra, hra, hLL⟩ := unhide hLo
          have HLL := hide hLL
          have HRA := hide hra
          have HGL : Hid (∀ W, Chg (fun j => j = vb) wL W → Chg (fun j => j = vb) wV W) := hide (fun W hW => (unhide hCz).trans hW)
          have hvbL : vb < wL.heap.size := by omega
          clear hLL hra hLo
          go_upto_region 18 with fail
          go_wp2
          go_loopw [10] (fun i wr => ∃ k : Nat, k ≤ R.length ∧ i = .int .i64 k ∧ Hid (∃ nv, wr.heap[vb]? = some (.cells #[ra, nv] 56 (0, 0)) ∧ NLo wL.heap.size wr nv ((R.take k).map (vnode S R G))) ∧ Hid (Chg (fun j => j = vb) wL wr)) (fun i _ => R.length - (intOf i).toNat)
          case atStart => exact ⟨0, Nat.zero_le _, rfl, hide ⟨_, unhide HRA, ⟨[], World.ownsRow_nil _ _ _ _, rfl, fun t p h => by simp at h⟩⟩, hide (Chg.refl _ _)⟩
          case round =>
            obtain ⟨k, hk, rfl, hNo, hCL⟩ := hrel
            have hCV := unhide HGL _ (unhide hCL)
            obtain ⟨hB3, hNu⟩ := unhide HGV _ hCV
            obtain ⟨hG, b0, b1, hsh⟩ := unhide HG _ hB3
            have hzr := hCV.size
            have hzl := (unhide hCL).size
            by_cases hlt : k < R.length
            · obtain ⟨g, rfl, hgs, hgv⟩ := unhide HRV k hlt
              have rv := cell_below hB3 hgv
              have hmem : R[k] ∈ R := List.getElem_mem hlt
              have hxD := ((unhide HRO).2 _ hmem).2
              have htk : R.take (k + 1) = R.take k ++ [R[k]] := List.take_succ_eq_append_getElem hlt
              obtain ⟨x, hx⟩ : ∃ x, x = R[k] := ⟨_, rfl⟩
              rw [← hx] at rv hxD hmem htk
              obtain ⟨y, hxy⟩ : ∃ y, x = y + 1 := ⟨x - 1, by omega⟩
              have hyn : y < G.n := by omega
              have hsl : G.sh (y + 1) < len := (unhide HOK).sh _ (by omega) (by omega)
              have rs := hG.shp y hyn
              have rt := hsh _ hsl
              obtain ⟨s, hs⟩ : ∃ s, s = S (G.sh (y + 1)) := ⟨_, rfl⟩
              obtain ⟨sx, hsx⟩ : ∃ sx, sx = G.sh (y + 1) := ⟨_, rfl⟩
              have s8 : s.size ≤ 8 := by rw [hs]; exact ((unhide HOK).tab.2.2 _ hsl).1
              have HSS : Hid (s = S (G.sh (y + 1)) ∧ sx = G.sh (y + 1)) := hide ⟨hs, hsx⟩
              have HXK := hide hx.symm
              have HXY := hide hxy
              have HMM := hide hmem
              have HTK := hide htk
              rw [← hs] at rt
              rw [← hsx] at rt rs hsl
              have k0 : (0 : Int) ≤ (k : Int) := by omega
              have k1 : (k : Int) < (R.length : Int) := by omega
              have y2 : (x : Int) - 1 = (y : Int) := by omega
              have y3 : (y : Int) ≤ 100000 := by have := unhide HNN; omega
              have y0 : (0 : Int) ≤ (y : Int) := by omega
              have y1 : (y : Int) < (G.n : Int) := by omega
              have s0 : (0 : Int) ≤ (sx : Int) := by omega
              have s1 : (sx : Int) < (len : Int) := by omega
              have c4 : wr.cell? ⟨w.heap.size, 4, none⟩ = some (.slice (some ⟨ρ.sb, 0, none⟩) G.n ρ.sc) := Lib.cell_of_heap b0 4
              clear hs hsx hx hxy htk hmem hxD hgv b0 b1 hsh hG hNu
              go_upto_region 20 with fail
              have u4 := Later.cell (block_lt c4) c4
              have us := Later.cell (block_lt rs) rs
              have uv := Later.cell (block_lt rv) rv
              refine wp_region_side_later [0, 0, 0, 0, 0, 0, 0, 0, 0, 0, 1, 2] 11 wr (by kernel_rfl) (by kernel_rfl) (by repeat (first | exact Below.refl _ _ | assumption | refine Below.alloc ?_ (by first | (simp; done) | (simp; omega) | omega) _ | refine Below.setCell ?_ (by first | (simp; done) | (simp; omega) | omega) _ | apply Below.drew | refine Below.trans ?_ (Below.mono (by assumption) (by first | (simp; done) | (simp; omega) | omega)))) ?_; simp only [kblk, List.map_cons, List.map_nil, Nat.reduceBNe, diesOps_f, diesOps_t, diesOps_nil, bne_self_eq_false]; (repeat (first | go_big_quiet_skip | (go_big_quiet_want; (first | ((fail); go_big_quiet_on; simp only [Act.put, List.setIfInBounds_toArray, List.set_cons_zero, List.set_cons_succ]) | (go_big_quiet_op; (first | go_big_quiet_on | go_big_quiet_call ((fail)))))))); refine wpQuiet_nil ?_; rw [show sideIdx [0, 0, 0, 0, 0, 0, 0, 0, 0, 0, 1, 2] 11 = [10] from by decide]; simp only [List.filterMap_cons, List.filterMap_nil, List.getElem?_cons_zero, List.getElem?_cons_succ]; (try simp only [applyP, List.nil_append, List.cons_append, List.foldl_cons, List.foldl_nil, Act.put, List.setIfInBounds_toArray, List.set_cons_zero, List.set_cons_succ]); unfold sideWp Oper.wpV; (try simp only [applyP, List.nil_append, List.cons_append, List.foldl_cons, List.foldl_nil, Act.put, List.setIfInBounds_toArray, List.set_cons_zero, List.set_cons_succ]); go_simp
              refine ⟨((Below.refl _ wr).drew).alloc (Nat.le_refl _) _, ?_⟩
              unfold sideWp; simp only [applyP, List.nil_append, List.cons_append, List.foldl_cons, List.foldl_nil, Act.put, List.setIfInBounds_toArray, List.set_cons_zero, List.set_cons_succ, List.drop_succ_cons, List.drop_zero]
              clear u4 us uv c4 rs rv
              go_upto_region 21 with fail
              refine wp_gen ?_
              intro wM hwM
              have hnb : wM.heap[wr.heap.size]? = some (.cells #[.int .i64 (sx : Int), .slice none 0 0] 97 (0, 0)) := by rw [hwM]; exact heap_alloc_new _ _
              have hbM : Below wr.heap.size wr wM := by rw [hwM]; repeat (first | exact Below.refl _ _ | assumption | refine Below.alloc ?_ (by first | (simp; done) | (simp; omega) | omega) _ | refine Below.setCell ?_ (by first | (simp; done) | (simp; omega) | omega) _ | apply Below.drew | refine Below.trans ?_ (Below.mono (by assumption) (by first | (simp; done) | (simp; omega) | omega)))
              have hzM : wr.heap.size < wM.heap.size := by rw [hwM]; simp
              clear hwM
              obtain ⟨wK, hwK⟩ : ∃ wK, wK = wr := ⟨_, rfl⟩
              subst hwK
              have HBM := hide hbM
              have hCM : Chg (fun j => j = vb) wV wM := hCV.trans (Chg.of hbM)
              have HCM := hide hCM
              obtain ⟨-, b0, -, hsh⟩ := unhide HG _ (unhide HGV _ hCM).1
              have c2 : wM.cell? ⟨w.heap.size, 2, none⟩ = some (.slice (some ⟨ga, oa, none⟩) len cap) := Lib.cell_of_heap b0 2
              have n0 : wM.cell? ⟨wK.heap.size, 0, none⟩ = some (.int .i64 (sx : Int)) := Lib.cell_of_heap hnb 0
              have rt := hsh sx hsl
              rw [(unhide HSS).2, ← (unhide HSS).1, ← (unhide HSS).2] at rt
              have HNB := hide hnb
              clear hnb hbM hCM b0 hsh hCV hB3
              go_wp2
              clear c2 n0 rt k0 k1 y2 y3 s0 s1
              go_loopw [13] (fun c wr => ∃ q : Nat, q ≤ s.size ∧ c = .int .i64 q ∧ Hid (∃ nf, wr.heap[wK.heap.size]? = some (.cells #[.int .i64 (sx : Int), nf] 97 (0, 0)) ∧ wr.ownsRow wM.heap.size 2 1 nf q ((List.range q).map fun f => Value.int .i64 (if kd s f = 0 then nidx R (G.held S x f) else G.ints S x f))) ∧ Hid (Chg (fun j => j = wK.heap.size) wM wr)) (fun c _ => s.size - (intOf c).toNat)
              case atStart => exact ⟨0, Nat.zero_le _, rfl, hide ⟨_, unhide HNB, World.ownsRow_nil _ _ _ _⟩, hide (Chg.refl _ _)⟩
              case round =>
                obtain ⟨q, hq, rfl, hFo, hCN⟩ := hrel
                obtain ⟨nf, hnf, hown⟩ := unhide hFo
                have hzn := (unhide hCN).size
                have hwk : Below w3.heap.size w3 wr := (((unhide HGV) _ (unhide HCM)).1).trans (Chg.below (unhide hCN) (fun i hi => by have hi : i = wK.heap.size := hi; omega) (by omega))
                have hNu : NumSt wr w3.heap.size G.n R R.length := by
                  obtain ⟨cs, e1, e2⟩ := (unhide HGV _ (unhide HCM)).2
                  exact ⟨cs, ((unhide hCN).block _ (Array.getElem?_eq_some_iff.1 e1).1 (fun e => by have e : w3.heap.size = wK.heap.size := e; omega)).trans e1, e2⟩
                obtain ⟨hG, b0, -, -⟩ := unhide HG _ hwk
                have hHN := hide hnf
                have hHO := hide hown
                by_cases hqs : q < s.size
                · have rv := cell_below hwk (show w3.cell? ⟨g, k, none⟩ = some (.int .i64 (x : Int)) by
                    obtain ⟨g', e1, -, e3⟩ := unhide HRV k hlt
                    injection e1 with e1
                    injection e1 with e1 _ _
                    subst e1
                    rw [e3, unhide HXK])
                  have r1 := hG.flds y hyn
                  have r2 := hG.fld y q hyn (by rw [← (unhide HSS).1]; exact hqs)
                  rw [← (unhide HSS).1] at r1
                  have hptr : (s[q]'hqs).toNat = 112 → 0 ≤ G.fl (y + 1) q ∧ G.fl (y + 1) q ≤ G.n ∧ G.held S x q = (G.fl (y + 1) q).toNat ∧ kd s q = 0 := fun hb => by
                    have hkd : kd (S (G.sh (y + 1))) q = 0 := by rw [← (unhide HSS).1]; exact kd_112 hqs hb
                    have := (unhide HOK).ptr (y + 1) q (by omega) (by omega) (by rw [← (unhide HSS).1]; exact hqs) hkd
                    exact ⟨this.1, this.2, by rw [unhide HXY]; unfold Gr.held; rw [if_pos hkd], kd_112 hqs hb⟩
                  have hnop : ¬ (s[q]'hqs).toNat = 112 → ¬ kd s q = 0 ∧ G.ints S x q = G.fl (y + 1) q := fun hb => by
                    have hkd : ¬ kd s q = 0 := by
                      refine kd_not hqs ?_ hb
                      rw [(unhide HSS).1]
                      exact (unhide HOK).tab.2.2 _ ((unhide HOK).sh _ (by omega) (by omega))
                    refine ⟨hkd, ?_⟩
                    rw [unhide HXY]
                    unfold Gr.ints
                    rw [if_neg (by rw [← (unhide HSS).1]; exact hkd)]
                  have HPTR := hide hptr
                  have HNOP := hide hnop
                  have hhr : G.held S x q = 0 ∨ G.held S x q ∈ R := unhide HRH x (unhide HMM) q (by rw [unhide HXY, ← (unhide HSS).1]; exact hqs)
                  have HHR := hide hhr
                  generalize G.fl (y + 1) q = V at r2 HPTR HNOP
                  have HNU := hide hNu
                  have HWK := hide hwk
                  clear hptr hnop hG hhr hNu hwk hnf hown
                  have k0 : (0 : Int) ≤ (k : Int) := by omega
                  have k1 : (k : Int) < (R.length : Int) := by omega
                  have y2 : (x : Int) - 1 = (y : Int) := by have := unhide HXY; omega
                  have y3 : (y : Int) ≤ 100000 := by have := unhide HNN; omega
                  have q0 : (0 : Int) ≤ (q : Int) := by omega
                  have q1 : (q : Int) < (s.size : Int) := by omega
                  have c5 : wr.cell? ⟨w.heap.size, 5, none⟩ = some (.slice (some ⟨ρ.fb, 0, none⟩) G.n ρ.fc) := Lib.cell_of_heap b0 5
                  clear b0
                  go_upto_region 25 with fail
                  have u5 := Later.cell (block_lt c5) c5
                  have us := Later.cell (block_lt r1) r1
                  have ut := Later.cell (block_lt r2) r2
                  have uv := Later.cell (block_lt rv) rv
                  refine wp_region_later wr (by kernel_rfl) (by kernel_rfl) (by repeat (first | exact Below.refl _ _ | assumption | refine Below.alloc ?_ (by first | (simp; done) | (simp; omega) | omega) _ | refine Below.setCell ?_ (by first | (simp; done) | (simp; omega) | omega) _ | apply Below.drew | refine Below.trans ?_ (Below.mono (by assumption) (by first | (simp; done) | (simp; omega) | omega)))) ?_; (repeat (first | go_big_quiet_skip | (go_big_quiet_want; (first | ((fail); go_big_quiet_on; simp only [Act.put, List.setIfInBounds_toArray, List.set_cons_zero, List.set_cons_succ]) | (go_big_quiet_op; (first | go_big_quiet_on | go_big_quiet_call ((fail)))))))); refine wpQuiet_nil ?_
                  intro w4 hw4
                  have hn4 := (hw4.block _ (Array.getElem?_eq_some_iff.1 (unhide hHN)).1).trans (unhide hHN)
                  have ho4 := (unhide hHO).kept (grown_below hw4 none) (by cases nf.ownBlock <;> simp)
                  have hC4 : Chg (fun j => j = wK.heap.size) wM w4 := (unhide hCN).trans (Chg.of hw4)
                  have HN4 := hide hn4
                  have HO4 := hide ho4
                  have HC4 := hide hC4
                  have HNU4 : Hid (NumSt w4 w3.heap.size G.n R R.length) := hide (by
                    obtain ⟨cs, e1, e2⟩ := unhide HNU
                    exact ⟨cs, (hw4.block _ (Array.getElem?_eq_some_iff.1 e1).1).trans e1, e2⟩)
                  have n1 : w4.cell? ⟨wK.heap.size, 1, none⟩ = some nf := Lib.cell_of_heap hn4 1
                  have hz4 := hC4.size
                  clear u5 us ut uv c5 r1 r2 rv k0 k1 y2 y3 hw4 hHN hHO hn4 ho4 hC4 hFo hCN HNU HWK
                  obtain ⟨i4, hi4, hz40, hz41, hz42⟩ := inf_q
                  have INQ := hide (show _ ∧ _ ∧ _ ∧ _ from ⟨hi4, hz40, hz41, hz42⟩)
                  clear hi4 hz40 hz41 hz42
                  by_cases hb : (s[q]'hqs).toNat = 112
                  · obtain ⟨v0, v1, v2, v3⟩ := unhide HPTR hb
                    obtain ⟨u, rfl⟩ : ∃ u : Nat, V = (u : Int) := ⟨V.toNat, by omega⟩
                    have hun : u ≤ G.n := by omega
                    rw [Int.toNat_natCast] at v2
                    have hfv : Hid ((List.range (q + 1)).map (fun f => Value.int .i64 (if kd s f = 0 then nidx R (G.held S x f) else G.ints S x f)) = (List.range q).map (fun f => Value.int .i64 (if kd s f = 0 then nidx R (G.held S x f) else G.ints S x f)) ++ [.int .i64 (nidx R u)]) := hide (by rw [map_snoc, if_pos v3, v2])
                    have hur : u = 0 ∨ u ∈ R := by rw [← v2]; exact unhide HHR
                    have rn := (unhide HNU4).nidx (fun h => ((unhide HRO).2 0 h).1 rfl) hun hur
                    have x0 : (0 : Int) ≤ (u : Int) := by omega
                    have x1 : (u : Int) < (G.n : Int) + 1 := by omega
                    clear v0 v1 v2 v3 HPTR HNOP hur
                    generalize nidx R u = nx at rn hfv
                    obtain ⟨hi, hz0, hz1', hz2⟩ := unhide INQ
                    go_wp2_with (at_builtin; refine wpList_append_own _ rfl (.tmp 123) (.tmp 125) _ rfl wM.heap.size 2 i4 (.int .i64 0) 1 8 Try.underlying89 hi hz0 hz1' hz2 rfl (by decide) _ _ _ rfl ((unhide HO4).alloc _) ⟨w4.heap.size, 0, none⟩ 1 1 [.int .i64 nx] rfl rfl ?c1 ?c2 ?c3 ?c4 ?c5 ?_)
                    case c1 => exact one_newP _ _ _
                    case c2 => simp [Value.oneCell']
                    case c3 => simp only [maxLen]; omega
                    case c4 => omega
                    case c5 => simp; omega
                    intro v' w5 how hgr _
                    have hfin := view_step (Bs := vb) (unhide HN4) (unhide HO4) (unhide HC4) (by omega) (by omega) (by omega) how hgr
                    obtain ⟨A7, n7, c7, rfl⟩ : ∃ A n c, v' = .slice A n c := by
                      rcases how.2 with ⟨e, _⟩ | ⟨g9, c9, _, e, _⟩
                      · exact ⟨_, _, _, e⟩
                      · exact ⟨_, _, _, e⟩
                    have nb5 : w5.cell? ⟨wK.heap.size, 1, none⟩ = some nf := by rw [Lib.cell_of_heap hfin.1]; rfl
                    have nf5 : w5.frozen? ⟨wK.heap.size, 1, none⟩ = false := by simp [World.frozen?, hfin.1]
                    have HFIN := hide hfin.2.2.2
                    clear hfin how hgr hi hz0 hz1' hz2 n1
                    go_wp2
                    go_roundw
                    case measure => simp [intOf]; omega
                    case rel =>
                      obtain ⟨g3, g4, g5⟩ := unhide HFIN
                      exact ⟨q + 1, by omega, by go_num, hide ⟨_, g3, by rw [unhide hfv]; exact g4⟩, hide g5⟩
                  · obtain ⟨v0, v1⟩ := unhide HNOP hb
                    have hfv : Hid ((List.range (q + 1)).map (fun f => Value.int .i64 (if kd s f = 0 then nidx R (G.held S x f) else G.ints S x f)) = (List.range q).map (fun f => Value.int .i64 (if kd s f = 0 then nidx R (G.held S x f) else G.ints S x f)) ++ [.int .i64 V]) := hide (by rw [map_snoc, if_neg v0, v1])
                    clear v0 v1 HPTR HNOP
                    obtain ⟨hi, hz0, hz1', hz2⟩ := unhide INQ
                    go_wp2_with (at_builtin; refine wpList_append_own _ rfl (.tmp 123) (.tmp 125) _ rfl wM.heap.size 2 i4 (.int .i64 0) 1 8 Try.underlying89 hi hz0 hz1' hz2 rfl (by decide) _ _ _ rfl ((unhide HO4).alloc _) ⟨w4.heap.size, 0, none⟩ 1 1 [.int .i64 V] rfl rfl ?c1 ?c2 ?c3 ?c4 ?c5 ?_)
                    case c1 => exact one_newP _ _ _
                    case c2 => simp [Value.oneCell']
                    case c3 => simp only [maxLen]; omega
                    case c4 => omega
                    case c5 => simp; omega
                    intro v' w5 how hgr _
                    have hfin := view_step (Bs := vb) (unhide HN4) (unhide HO4) (unhide HC4) (by omega) (by omega) (by omega) how hgr
                    obtain ⟨A7, n7, c7, rfl⟩ : ∃ A n c, v' = .slice A n c := by
                      rcases how.2 with ⟨e, _⟩ | ⟨g9, c9, _, e, _⟩
                      · exact ⟨_, _, _, e⟩
                      · exact ⟨_, _, _, e⟩
                    have nb5 : w5.cell? ⟨wK.heap.size, 1, none⟩ = some nf := by rw [Lib.cell_of_heap hfin.1]; rfl
                    have nf5 : w5.frozen? ⟨wK.heap.size, 1, none⟩ = false := by simp [World.frozen?, hfin.1]
                    have HFIN := hide hfin.2.2.2
                    clear hfin how hgr hi hz0 hz1' hz2 n1
                    go_wp2
                    go_roundw
                    case measure => simp [intOf]; omega
                    case rel =>
                      obtain ⟨g3, g4, g5⟩ := unhide HFIN
                      exact ⟨q + 1, by omega, by go_num, hide ⟨_, g3, by rw [unhide hfv]; exact g4⟩, hide g5⟩
                · obtain rfl : q = s.size := by omega
                  have hVU : Below wK.heap.size wK wr := (unhide HBM).trans (Chg.below (unhide hCN) (fun i hi => by have hi : i = wK.heap.size := hi; omega) (by omega))
                  have hl8 : (vnode S R G x).2.length = s.size := by
                    unfold vnode
                    rw [List.length_map, List.length_range, unhide HXY, ← (unhide HSS).1]
                  have hfst : (vnode S R G x).1 = (sx : Int) := by
                    unfold vnode
                    rw [unhide HXY, ← (unhide HSS).2]
                  have hrd : RdI 2 wr nf (vnode S R G x).2 := RdI.of_row (base := wM.heap.size) (by
                    rw [hl8]
                    have e : (vnode S R G x).2.map (Value.int .i64) = (List.range s.size).map (fun f => Value.int .i64 (if kd s f = 0 then nidx R (G.held S x f) else G.ints S x f)) := by
                      unfold vnode
                      rw [List.map_map]
                      rw [unhide HXY, ← (unhide HSS).1]
                      rfl
                    rw [e]
                    exact hown)
                  obtain ⟨A8, c8, hn8, hrdj⟩ := id hrd
                  rw [hl8] at hn8
                  subst hn8
                  obtain ⟨nv, hnv, hNL⟩ := unhide hNo
                  obtain ⟨xs, ho, hxl, hx3⟩ := hNL.grown (grown_below hVU none) (by cases nv.ownBlock <;> simp) (fun r e => by cases e)
                  rw [List.length_map, List.length_take, Nat.min_eq_left (Nat.le_of_lt hlt)] at ho hxl
                  have lb2 := (Array.getElem?_eq_some_iff.1 hnv).1
                  have hb2 := (hVU.block vb lb2).trans hnv
                  have c2 : wr.cell? ⟨vb, 1, none⟩ = some nv := by rw [Lib.cell_of_heap hb2]; rfl
                  have c0' : wr.cell? ⟨wK.heap.size, 0, none⟩ = some (.int .i64 (sx : Int)) := by rw [Lib.cell_of_heap hnf]; rfl
                  have c1' : wr.cell? ⟨wK.heap.size, 1, none⟩ = some (.slice A8 s.size c8) := by rw [Lib.cell_of_heap hnf]; rfl
                  have HRD := hide hrd
                  have HX3 := hide hx3
                  have HB2 := hide hb2
                  have HOX := hide ho
                  have HXL := hide hxl
                  have HVU := hide hVU
                  have HFS := hide hfst
                  have hkb : k ≤ 100000 := by have := unhide HRL; have := unhide HNN; omega
                  clear hrd hrdj hx3 hb2 ho hVU hl8 hxl hown hnf hFo hHN hHO hNu hG b0 hwk hfst hnv hNL
                  obtain ⟨i3, ni, nz0, nz1, nz2⟩ := inf_nd
                  go_wp2_with (at_builtin; refine wpList_append_own _ rfl (.tmp 129) (.tmp 131) _ rfl wL.heap.size 97 i3 (.agg #[.int .i64 0, .slice none 0 0]) 2 32 Try.underlying54 ni nz0 nz1 nz2 rfl (by decide) _ _ _ rfl ((unhide HOX).alloc _) ⟨wr.heap.size, 0, none⟩ 1 1 [.int .i64 (sx : Int), .slice A8 s.size c8] rfl rfl ?c1 ?c2 ?c3 ?c4 ?c5 ?_)
                  case c1 => exact new_cellsV _ _ _
                  case c2 => simp [Value.oneCell']
                  case c3 => simp only [maxLen]; omega
                  case c4 => omega
                  case c5 => simp; omega
                  intro v' w5 how2 hgr _
                  have hlx : ((R.take k).map (vnode S R G)).length = k := by rw [List.length_map, List.length_take, Nat.min_eq_left (Nat.le_of_lt hlt)]
                  have hba : Below wr.heap.size wr (wr.alloc (.cells #[.int .i64 (sx : Int), .slice A8 s.size c8] 97)) := by repeat (first | exact Below.refl _ _ | assumption | refine Below.alloc ?_ (by first | (simp; done) | (simp; omega) | omega) _ | refine Below.setCell ?_ (by first | (simp; done) | (simp; omega) | omega) _ | apply Below.drew | refine Below.trans ?_ (Below.mono (by assumption) (by first | (simp; done) | (simp; omega) | omega)))
                  have hL5 : NLo wL.heap.size w5 v' (((R.take k).map (vnode S R G)) ++ [vnode S R G x]) := NLo.more (by rw [hlx]; exact (unhide HOX).alloc _) (by rw [hlx]; exact unhide HXL) (fun t p ht => by
                    obtain ⟨e0, u, e1, e2⟩ := unhide HX3 t p ht
                    exact ⟨e0, u, e1, e2.below hba⟩) (by rw [hlx, unhide HFS]; exact how2) hgr ((unhide HRD).below hba)
                  have hown : ∀ r, nv.ownBlock = some r → wL.heap.size ≤ r := fun r hr => ((unhide HOX).lt r hr).1
                  have hb5 : w5.heap[vb]? = some (Obj.cells #[ra, nv] 56 (0, 0)) := (hgr.block vb (by simp; omega) (fun e => by
                    have h1 := hown vb (by first | exact e | exact e.symm)
                    omega)).trans ((hba.block vb (by omega)).trans (unhide HB2))
                  have hz5 := hgr.size
                  simp only [World.size_alloc] at hz5
                  have hC5 : Chg (fun b => b = vb) wL w5 := by
                    have h1 : Chg (fun b => b = vb) wL (wr.alloc (.cells #[.int .i64 (sx : Int), .slice A8 s.size c8] 97)) := ((unhide hCL).trans (Chg.of (unhide HVU))).alloc _
                    exact ⟨hgr.os.trans h1.os, hgr.tape.trans h1.tape, hgr.output.trans h1.output, Nat.le_trans h1.size hgr.size, fun i hi hne => (hgr.block i (Nat.lt_of_lt_of_le hi h1.size) (fun e => by
                      have h2 := hown i (by first | exact e | exact e.symm)
                      omega)).trans (h1.block i hi hne)⟩
                  obtain ⟨A7, n7, c7, rfl⟩ : ∃ A n c, v' = .slice A n c := by
                    rcases how2.2 with ⟨e, _⟩ | ⟨g9, c9, _, e, _⟩
                    · exact ⟨_, _, _, e⟩
                    · exact ⟨_, _, _, e⟩
                  have hL6 := hL5.grown (set_grown w5 vb 1 (.slice A7 n7 c7)) (by
                    cases e : (Value.slice A7 n7 c7).ownBlock with
                    | none => exact .inr rfl
                    | some r => exact .inl (fun h => by
                        injection h with h
                        have := (how2.lt r e).1
                        omega)) (fun r e cur h => by
                    injection e with e
                    subst e
                    rw [hb5] at h
                    injection h with h
                    injection h with _ h _
                    exact absurd h (by decide))
                  have c5 : w5.cell? ⟨vb, 1, none⟩ = some nv := by rw [Lib.cell_of_heap hb5]; rfl
                  have f5 : w5.frozen? ⟨vb, 1, none⟩ = false := by simp [World.frozen?, hb5]
                  have hst := heap_setCell_same w5 vb 1 _ _ (.slice A7 n7 c7) hb5
                  have HL6 := hide hL6
                  have HC5 := hide hC5
                  have HST := hide hst
                  clear hL5 hL6 hC5 hst hb5 how2 hgr hba hlx hown ni nz0 nz1 nz2 c2 c0' c1'
                  go_wp2
                  go_roundw
                  case measure => simp [intOf]; omega
                  case rel =>
                    refine ⟨k + 1, by omega, by go_num, hide ⟨.slice A7 n7 c7, (unhide HST).trans (by simp), ?_⟩, hide ((unhide HC5).set (.inr rfl) _)⟩
                    rw [unhide HTK, List.map_append]
                    exact unhide HL6
            · obtain rfl : k = R.length := by omega
              obtain ⟨nv, hnv, hNL⟩ := unhide hNo
              rw [List.take_length] at hNL
              have hLv := (unhide HLL).keepT (V := wr) (t0 := 56) (fun b c t hb ht => (unhide hCL).block b (Array.getElem?_eq_some_iff.1 hb).1 (fun e => by
                have e : b = vb := e
                subst e
                rw [unhide HRA] at hb
                cases hb
                exact ht rfl)) (by decide) (by decide)
              obtain ⟨A1, d1, hA1, -⟩ := hLv.rd
              obtain ⟨A2, d2, hA2, -⟩ := hNL.rd
              have hl1 : ((List.range T).map (vrow R G)).length = T := by simp
              have hl2 : (R.map (vnode S R G)).length = R.length := by simp
              rw [hl1] at hA1
              rw [hl2] at hA2
              subst hA1 hA2
              have w2c : wr.cell? ⟨vb, 0, none⟩ = some (.slice A1 T d1) := by rw [Lib.cell_of_heap hnv]; rfl
              have w3c : wr.cell? ⟨vb, 1, none⟩ = some (.slice A2 R.length d2) := by rw [Lib.cell_of_heap hnv]; rfl
              have w4c : wr.cell? ⟨w.heap.size + 1, 0, none⟩ = some (.slice none 0 0) := by rw [Lib.cell_of_heap b1]; rfl
              have w5c : wr.cell? ⟨w.heap.size + 1, 1, none⟩ = some (.slice none 0 0) := by rw [Lib.cell_of_heap b1]; rfl
              have wf : ∀ i, wr.frozen? ⟨w.heap.size + 1, i, none⟩ = false := fun i => by simp [World.frozen?, b1]
              have hBe : Below w.heap.size w ((wr.setCell ⟨w.heap.size + 1, 0, none⟩ (.slice A1 T d1)).setCell ⟨w.heap.size + 1, 1, none⟩ (.slice A2 R.length d2)) := Below.setCell (Below.setCell (hBw3.trans (hB3.mono hBw3.size)) (Nat.le_succ _) _) (Nat.le_succ _) _
              have hkv : ∀ (b : Nat) c t, wr.heap[b]? = some (Obj.cells c t (0, 0)) → t ≠ 56 → ((wr.setCell ⟨w.heap.size + 1, 0, none⟩ (.slice A1 T d1)).setCell ⟨w.heap.size + 1, 1, none⟩ (.slice A2 R.length d2)).heap[b]? = wr.heap[b]? := fun b c t hb ht => by
                have hne : b ≠ w.heap.size + 1 := fun e => by
                  subst e
                  rw [b1] at hb
                  cases hb
                  exact ht rfl
                exact (Below.heap_setCell _ ⟨w.heap.size + 1, 1, none⟩ _ b hne).trans (Below.heap_setCell _ ⟨w.heap.size + 1, 0, none⟩ _ b hne)
              have HEND : Hid (RdVw ((wr.setCell ⟨w.heap.size + 1, 0, none⟩ (.slice A1 T d1)).setCell ⟨w.heap.size + 1, 1, none⟩ (.slice A2 R.length d2)) (.agg #[.slice A1 T d1, .slice A2 R.length d2]) ((List.range T).map (vrow R G), R.map (vnode S R G))) := hide ⟨_, _, rfl, (hLv.keepT hkv (by decide) (by decide)).rd, (hNL.keepN hkv (by decide) (by decide)).rd⟩
              have HBE := hide hBe
              have k2 : ¬ (R.length : Int) < (R.length : Int) := by omega
              clear hLv hNL hnv hNo b0 b1 hsh hG hNu hB3 hCV hkv hBe hl1 hl2 HRA
              go_wp2
              refine bodyPost_ret (v := .agg #[.slice A1 T d1, .slice A2 R.length d2]) (by simp only [results, Try.results21]; go_simp) rfl ?_
              exact ⟨_, rfl, unhide HEND, unhide HBE⟩
end
end Go.Proofs.Ytbkaopeajjechaa

namespace Go.Proofs.Ytbkaopeajjechaa
set_option linter.unusedVariables false
set_option linter.unusedSimpArgs false
open Go.RowKit Go.Maps

def VwB (V : List (List Int) × List (Int × List Int)) : Prop := (V.1.length ≤ 9223372036854775807 ∧ ∀ l ∈ V.1, l.length ≤ 9223372036854775807) ∧ (V.2.length ≤ 9223372036854775807 ∧ ∀ p ∈ V.2, p.2.length ≤ 9223372036854775807)
theorem VwSm.big {V : List (List Int) × List (Int × List Int)} (h : VwSm V) : VwB V :=
  ⟨⟨by have := h.1.1; omega, fun l hl => by have := h.1.2 l hl; omega⟩, by have := h.2.1; omega, fun p hp => by have := h.2.2 p hp; omega⟩

set_option maxRecDepth 100000 in
set_option maxHeartbeats 4000000 in
theorem rAlike_any (V1 V2 : List (List Int) × List (Int × List Int)) (v1 v2 : Value) (h1 : VwB V1) (h2 : VwB V2) (w : World) (H1 : RdVw w v1 V1) (H2 : RdVw w v2 V2) (D : Bool) (hD : D = true ↔ V1 = V2) :
    Calls Try.prog 19 #[v1, v2] w fun e w' => e = .returned (.bool D) ∧ Below w.heap.size w w' := by
  obtain ⟨R1, N1⟩ := V1
  obtain ⟨R2, N2⟩ := V2
  obtain ⟨a1, b1, rfl, hr1, hn1⟩ := H1
  obtain ⟨a2, b2, rfl, hr2, hn2⟩ := H2
  obtain ⟨A1, c1, rfl, hr1⟩ := hr1
  obtain ⟨A2, c2, rfl, hr2⟩ := hr2
  obtain ⟨B1, d1, rfl, hn1⟩ := hn1
  obtain ⟨B2, d2, rfl, hn2⟩ := hn2
  obtain ⟨⟨m1, m2⟩, m3, m4⟩ := h1
  obtain ⟨⟨k1, k2⟩, k3, k4⟩ := h2
  dsimp only at hr1 hr2 hn1 hn2 m1 m2 m3 m4 k1 k2 k3 k4 ⊢
  have HR1 : Hid (∀ W, Below w.heap.size w W → ∀ (t : Nat) (l : List Int), R1[t]? = some l → ∃ g u, A1 = some ⟨g, 0, none⟩ ∧ W.cell? ⟨g, t, none⟩ = some u ∧ RdI 3 W u l) := hide (fun W hW t l hl => by
    obtain ⟨g, u, e1, e2, e3, e4⟩ := hr1 t l hl
    exact ⟨g, u, e1, cell_below hW e3, e4.below hW⟩)
  have HR2 : Hid (∀ W, Below w.heap.size w W → ∀ (t : Nat) (l : List Int), R2[t]? = some l → ∃ g u, A2 = some ⟨g, 0, none⟩ ∧ W.cell? ⟨g, t, none⟩ = some u ∧ RdI 3 W u l) := hide (fun W hW t l hl => by
    obtain ⟨g, u, e1, e2, e3, e4⟩ := hr2 t l hl
    exact ⟨g, u, e1, cell_below hW e3, e4.below hW⟩)
  have HN1 : Hid (∀ W, Below w.heap.size w W → ∀ (t : Nat) (p : Int × List Int), N1[t]? = some p → ∃ g u, B1 = some ⟨g, 0, none⟩ ∧ W.cell? ⟨g, t * 2, none⟩ = some (.int .i64 p.1) ∧ W.cell? ⟨g, t * 2 + 1, none⟩ = some u ∧ RdI 2 W u p.2) := hide (fun W hW t l hl => by
    obtain ⟨g, u, e1, e2, e3, e4, e5⟩ := hn1 t l hl
    exact ⟨g, u, e1, cell_below hW e3, cell_below hW e4, e5.below hW⟩)
  have HN2 : Hid (∀ W, Below w.heap.size w W → ∀ (t : Nat) (p : Int × List Int), N2[t]? = some p → ∃ g u, B2 = some ⟨g, 0, none⟩ ∧ W.cell? ⟨g, t * 2, none⟩ = some (.int .i64 p.1) ∧ W.cell? ⟨g, t * 2 + 1, none⟩ = some u ∧ RdI 2 W u p.2) := hide (fun W hW t l hl => by
    obtain ⟨g, u, e1, e2, e3, e4, e5⟩ := hn2 t l hl
    exact ⟨g, u, e1, cell_below hW e3, cell_below hW e4, e5.below hW⟩)
  clear hr1 hr2 hn1 hn2
  have HD := hide hD
  clear hD
  have hno : Hid (R1 ≠ R2 ∨ N1 ≠ N2 → D = false) := hide (fun h => by
    rw [Bool.eq_false_iff, Ne, unhide HD]
    intro e
    injection e with e1 e2
    rcases h with h | h
    · exact h e1
    · exact h e2)
  obtain ⟨r1, e1⟩ : ∃ r, R1.length = r := ⟨_, rfl⟩
  obtain ⟨r2, e2⟩ : ∃ r, R2.length = r := ⟨_, rfl⟩
  obtain ⟨n1, e3⟩ : ∃ r, N1.length = r := ⟨_, rfl⟩
  obtain ⟨n2, e4⟩ : ∃ r, N2.length = r := ⟨_, rfl⟩
  rw [e1] at m1 ⊢
  rw [e2] at k1 ⊢
  rw [e3] at m3 ⊢
  rw [e4] at k3 ⊢
  have HE1 := hide e1
  have HE2 := hide e2
  have HE3 := hide e3
  have HE4 := hide e4
  have HM2 := hide m2
  have HM4 := hide m4
  have HK2 := hide k2
  have HK4 := hide k4
  clear e1 e2 e3 e4 m2 m4 k2 k4
  go_enter Try.func19, Try.ntmps19
  go_upto_region 1 with fail
  refine wp_gen ?_
  intro w1 hw1
  have a0 : w1.heap[w.heap.size]? = some (.cells #[.slice A1 r1 c1, .slice B1 n1 d1] 56 (0, 0)) := by
    rw [hw1, heap_alloc_old _ _ _ (by simp)]
    exact heap_alloc_new _ _
  have a1 : w1.heap[w.heap.size + 1]? = some (.cells #[.slice A2 r2 c2, .slice B2 n2 d2] 56 (0, 0)) := by
    rw [hw1, ← World.size_alloc w (.cells #[.slice A1 r1 c1, .slice B1 n1 d1] 56)]
    exact heap_alloc_new _ _
  have hB1 : Below w.heap.size w w1 := by rw [hw1]; repeat (first | exact Below.refl _ _ | assumption | refine Below.alloc ?_ (by first | (simp; done) | (simp; omega) | omega) _ | refine Below.setCell ?_ (by first | (simp; done) | (simp; omega) | omega) _ | apply Below.drew | refine Below.trans ?_ (Below.mono (by assumption) (by first | (simp; done) | (simp; omega) | omega)))
  clear hw1
  have HBX : Hid (∀ W, Below w1.heap.size w1 W → W.cell? ⟨w.heap.size, 0, none⟩ = some (.slice A1 r1 c1) ∧ W.cell? ⟨w.heap.size, 1, none⟩ = some (.slice B1 n1 d1) ∧ W.cell? ⟨w.heap.size + 1, 0, none⟩ = some (.slice A2 r2 c2) ∧ W.cell? ⟨w.heap.size + 1, 1, none⟩ = some (.slice B2 n2 d2)) := hide (fun W hW =>
    ⟨cell_below hW (Lib.cell_of_heap a0 0), cell_below hW (Lib.cell_of_heap a0 1), cell_below hW (Lib.cell_of_heap a1 0), cell_below hW (Lib.cell_of_heap a1 1)⟩)
  clear a0 a1
  have hz1 := hB1.size
  have HB1 := hide hB1
  have HW1 : Hid (∀ W, Below w1.heap.size w1 W → Below w.heap.size w W) := hide (fun W hW => hB1.trans (hW.mono hz1))
  clear hB1
  obtain ⟨x0, x1, x2, x3⟩ := unhide HBX _ (Below.refl _ _)
  by_cases hr : r1 = r2
  · subst hr
    by_cases hn : n1 = n2
    · subst hn
      go_wp2
      clear x0 x1 x2 x3
      go_loopw [5] (fun i wr => ∃ k : Nat, k ≤ r1 ∧ i = .int .i64 k ∧ Hid (∀ t, t < k → R1[t]? = R2[t]?) ∧ Hid (Below w1.heap.size w1 wr)) (fun i _ => r1 - (intOf i).toNat)
      case atStart => exact ⟨0, Nat.zero_le _, rfl, hide (fun t ht => by omega), hide (Below.refl _ _)⟩
      case round =>
        obtain ⟨k, hk, rfl, HQ, HB⟩ := hrel
        obtain ⟨x0, x1, x2, x3⟩ := unhide HBX _ (unhide HB)
        by_cases hlt : k < r1
        · have q0 : (0 : Int) ≤ (k : Int) := by omega
          have q1 : (k : Int) < (r1 : Int) := by omega
          obtain ⟨l1, hl1⟩ : ∃ l, R1[k]? = some l := ⟨_, List.getElem?_eq_getElem (by rw [unhide HE1]; exact hlt)⟩
          obtain ⟨l2, hl2⟩ : ∃ l, R2[k]? = some l := ⟨_, List.getElem?_eq_getElem (by rw [unhide HE2]; exact hlt)⟩
          obtain ⟨g1, u1, rfl, y1, z1⟩ := unhide HR1 _ (unhide HW1 _ (unhide HB)) k l1 hl1
          obtain ⟨g2, u2, rfl, y2, z2⟩ := unhide HR2 _ (unhide HW1 _ (unhide HB)) k l2 hl2
          obtain ⟨s1, cc1, rfl, z1⟩ := z1
          obtain ⟨s2, cc2, rfl, z2⟩ := z2
          have hb1 := unhide HM2 l1 (List.mem_of_getElem? hl1)
          have hb2 := unhide HK2 l2 (List.mem_of_getElem? hl2)
          have HZ1 := hide z1
          have HZ2 := hide z2
          have HL1 := hide hl1
          have HL2 := hide hl2
          obtain ⟨p1, f1⟩ : ∃ r, l1.length = r := ⟨_, rfl⟩
          obtain ⟨p2, f2⟩ : ∃ r, l2.length = r := ⟨_, rfl⟩
          rw [f1] at y1 hb1
          rw [f2] at y2 hb2
          have HF1 := hide f1
          have HF2 := hide f2
          have HY1 := hide y1
          have HY2 := hide y2
          clear z1 z2 hl1 hl2 f1 f2
          go_upto_region 6 with fail
          have v0 := Later.cell (block_lt x0) x0
          have v2 := Later.cell (block_lt x2) x2
          have v3 := Later.cell (block_lt y1) y1
          have v4 := Later.cell (block_lt y2) y2
          refine wp_region_later wr (by kernel_rfl) (by kernel_rfl) (by repeat (first | exact Below.refl _ _ | assumption | refine Below.alloc ?_ (by first | (simp; done) | (simp; omega) | omega) _ | refine Below.setCell ?_ (by first | (simp; done) | (simp; omega) | omega) _ | apply Below.drew | refine Below.trans ?_ (Below.mono (by assumption) (by first | (simp; done) | (simp; omega) | omega)))) ?_; (repeat (first | go_big_quiet_skip | (go_big_quiet_want; (first | ((fail); go_big_quiet_on; simp only [Act.put, List.setIfInBounds_toArray, List.set_cons_zero, List.set_cons_succ]) | (go_big_quiet_op; (first | go_big_quiet_on | go_big_quiet_call ((fail)))))))); refine wpQuiet_nil ?_
          intro w3 hw3
          clear v0 v2 v3 v4 x0 x1 x2 x3 y1 y2
          have HB3 : Hid (Below w1.heap.size w1 w3) := hide ((unhide HB).trans (hw3.mono (unhide HB).size))
          by_cases hp : p1 = p2
          · subst hp
            go_wp2
            clear q0 q1
            obtain ⟨wq, hwq⟩ : ∃ wq, wq = wr := ⟨_, rfl⟩
            subst hwq
            go_loopw [6] (fun i wr => ∃ q : Nat, q ≤ p1 ∧ i = .int .i64 q ∧ Hid (∀ j, j < q → l1[j]? = l2[j]?) ∧ Hid (Below wq.heap.size wq wr)) (fun i _ => p1 - (intOf i).toNat)
            case atStart => exact ⟨0, Nat.zero_le _, rfl, hide (fun j hj => by omega), hide hw3⟩
            case round =>
              obtain ⟨q, hq, rfl, HQ2, HBq⟩ := hrel
              have hBw := (unhide HB).trans ((unhide HBq).mono (unhide HB).size)
              obtain ⟨x0, x1, x2, x3⟩ := unhide HBX _ hBw
              have y1 := cell_below (unhide HBq) (unhide HY1)
              have y2 := cell_below (unhide HBq) (unhide HY2)
              have q0 : (0 : Int) ≤ (k : Int) := by omega
              have q1 : (k : Int) < (r1 : Int) := by omega
              by_cases hqs : q < p1
              · obtain ⟨i1, hi1⟩ : ∃ x, l1[q]? = some x := ⟨_, List.getElem?_eq_getElem (by rw [unhide HF1]; exact hqs)⟩
                obtain ⟨i2, hi2⟩ : ∃ x, l2[q]? = some x := ⟨_, List.getElem?_eq_getElem (by rw [unhide HF2]; exact hqs)⟩
                obtain ⟨h1, cu1, rfl, -, t1⟩ := unhide HZ1 q i1 hi1
                obtain ⟨h2, cu2, rfl, -, t2⟩ := unhide HZ2 q i2 hi2
                have t1 := cell_below (unhide HBq) t1
                have t2 := cell_below (unhide HBq) t2
                have s0 : (0 : Int) ≤ (q : Int) := by omega
                have s1 : (q : Int) < (p1 : Int) := by omega
                have HI1 := hide hi1
                have HI2 := hide hi2
                clear hi1 hi2
                go_upto_region 11 with fail
                have v0 := Later.cell (block_lt x0) x0
                have v2 := Later.cell (block_lt x2) x2
                have v3 := Later.cell (block_lt y1) y1
                have v4 := Later.cell (block_lt y2) y2
                have v5 := Later.cell (block_lt t1) t1
                have v6 := Later.cell (block_lt t2) t2
                refine wp_region_later wr (by kernel_rfl) (by kernel_rfl) (by repeat (first | exact Below.refl _ _ | assumption | refine Below.alloc ?_ (by first | (simp; done) | (simp; omega) | omega) _ | refine Below.setCell ?_ (by first | (simp; done) | (simp; omega) | omega) _ | apply Below.drew | refine Below.trans ?_ (Below.mono (by assumption) (by first | (simp; done) | (simp; omega) | omega)))) ?_; (repeat (first | go_big_quiet_skip | (go_big_quiet_want; (first | ((fail); go_big_quiet_on; simp only [Act.put, List.setIfInBounds_toArray, List.set_cons_zero, List.set_cons_succ]) | (go_big_quiet_op; (first | go_big_quiet_on | go_big_quiet_call ((fail)))))))); refine wpQuiet_nil ?_
                intro w4 hw4
                clear v0 v2 v3 v4 v5 v6 x0 x1 x2 x3 y1 y2 t1 t2
                have HB4 : Hid (Below wq.heap.size wq w4) := hide ((unhide HBq).trans (hw4.mono (unhide HBq).size))
                by_cases hii : i1 = i2
                · subst hii
                  have HQ4 : Hid (∀ j, j < q + 1 → l1[j]? = l2[j]?) := hide (fun j hj => by
                    by_cases e : j = q
                    · subst e; rw [unhide HI1, unhide HI2]
                    · exact unhide HQ2 j (by omega))
                  go_wp2
                  go_roundw
                  case measure => simp [intOf]; omega
                  case rel => exact ⟨q + 1, by omega, by go_num, HQ4, HB4⟩
                · have hres := unhide hno (.inl (fun e => by
                    subst e
                    have := unhide HL1
                    rw [unhide HL2] at this
                    injection this with this
                    subst this
                    have := unhide HI1
                    rw [unhide HI2] at this
                    injection this with this
                    exact hii this.symm))
                  subst hres
                  have hfin := unhide HW1 _ ((unhide HB).trans ((unhide HB4).mono (unhide HB).size))
                  go_wp2
                  go_ret
                  exact ⟨rfl, hfin⟩
              · obtain rfl : q = p1 := by omega
                have s1 : ¬ (q : Int) < (q : Int) := by omega
                have HQ4 : Hid (∀ j, j < k + 1 → R1[j]? = R2[j]?) := hide (fun j hj => by
                  by_cases e : j = k
                  · subst e
                    rw [unhide HL1, unhide HL2]
                    congr 1
                    exact ext_of (by rw [unhide HF1, unhide HF2]) (fun i hi => unhide HQ2 i (by rw [unhide HF1] at hi; exact hi))
                  · exact unhide HQ j (by omega))
                have HBz := hide hBw
                clear hBw
                go_wp2
                go_roundw
                case measure => simp [intOf]; omega
                case rel => exact ⟨k + 1, by omega, by go_num, HQ4, HBz⟩
          · have hres := unhide hno (.inl (fun e => by
              subst e
              have := unhide HL1
              rw [unhide HL2] at this
              injection this with this
              subst this
              exact hp ((unhide HF1).symm.trans (unhide HF2))))
            subst hres
            have hfin := unhide HW1 _ (unhide HB3)
            have hp : ¬ (p1 : Int) = (p2 : Int) := by omega
            go_wp2
            go_ret
            exact ⟨rfl, hfin⟩
        · obtain rfl : k = r1 := by omega
          have s1 : ¬ (k : Int) < (k : Int) := by omega
          have HRR : Hid (R1 = R2) := hide (ext_of (by rw [unhide HE1, unhide HE2]) (fun i hi => unhide HQ i (by rw [unhide HE1] at hi; exact hi)))
          go_upto_region 14 with fail
          go_wp2
          clear x0 x1 x2 x3 s1
          obtain ⟨wq, hwq⟩ : ∃ wq, wq = wr := ⟨_, rfl⟩
          subst hwq
          go_loopw [7] (fun i wr => ∃ k : Nat, k ≤ n1 ∧ i = .int .i64 k ∧ Hid (∀ t, t < k → N1[t]? = N2[t]?) ∧ Hid (Below w1.heap.size w1 wr)) (fun i _ => n1 - (intOf i).toNat)
          case atStart => exact ⟨0, Nat.zero_le _, rfl, hide (fun t ht => by omega), HB⟩
          case round =>
            obtain ⟨k, hk, rfl, HQ, HB⟩ := hrel
            obtain ⟨x0, x1, x2, x3⟩ := unhide HBX _ (unhide HB)
            by_cases hlt : k < n1
            · have q0 : (0 : Int) ≤ (k : Int) := by omega
              have q1 : (k : Int) < (n1 : Int) := by omega
              obtain ⟨⟨a1, l1⟩, hl1⟩ : ∃ l, N1[k]? = some l := ⟨_, List.getElem?_eq_getElem (by rw [unhide HE3]; exact hlt)⟩
              obtain ⟨⟨a2, l2⟩, hl2⟩ : ∃ l, N2[k]? = some l := ⟨_, List.getElem?_eq_getElem (by rw [unhide HE4]; exact hlt)⟩
              obtain ⟨g1, u1, rfl, y5, y1, z1⟩ := unhide HN1 _ (unhide HW1 _ (unhide HB)) k _ hl1
              obtain ⟨g2, u2, rfl, y6, y2, z2⟩ := unhide HN2 _ (unhide HW1 _ (unhide HB)) k _ hl2
              obtain ⟨s1, cc1, rfl, z1⟩ := z1
              obtain ⟨s2, cc2, rfl, z2⟩ := z2
              have hb1 := unhide HM4 _ (List.mem_of_getElem? hl1)
              have hb2 := unhide HK4 _ (List.mem_of_getElem? hl2)
              dsimp only at y5 y6 y1 y2 z1 z2 hb1 hb2
              have HZ1 := hide z1
              have HZ2 := hide z2
              have HL1 := hide hl1
              have HL2 := hide hl2
              obtain ⟨p1, f1⟩ : ∃ r, l1.length = r := ⟨_, rfl⟩
              obtain ⟨p2, f2⟩ : ∃ r, l2.length = r := ⟨_, rfl⟩
              rw [f1] at y1 hb1
              rw [f2] at y2 hb2
              have HF1 := hide f1
              have HF2 := hide f2
              have HY1 := hide y1
              have HY2 := hide y2
              clear z1 z2 hl1 hl2 f1 f2
              by_cases haa : a1 = a2
              · subst haa
                go_upto_region 16 with fail
                have v0 := Later.cell (block_lt x1) x1
                have v2 := Later.cell (block_lt x3) x3
                have v3 := Later.cell (block_lt y1) y1
                have v4 := Later.cell (block_lt y2) y2
                have v5 := Later.cell (block_lt y5) y5
                have v6 := Later.cell (block_lt y6) y6
                refine wp_region_later wr (by kernel_rfl) (by kernel_rfl) (by repeat (first | exact Below.refl _ _ | assumption | refine Below.alloc ?_ (by first | (simp; done) | (simp; omega) | omega) _ | refine Below.setCell ?_ (by first | (simp; done) | (simp; omega) | omega) _ | apply Below.drew | refine Below.trans ?_ (Below.mono (by assumption) (by first | (simp; done) | (simp; omega) | omega)))) ?_; (repeat (first | go_big_quiet_skip | (go_big_quiet_want; (first | ((fail); go_big_quiet_on; simp only [Act.put, List.setIfInBounds_toArray, List.set_cons_zero, List.set_cons_succ]) | (go_big_quiet_op; (first | go_big_quiet_on | go_big_quiet_call ((fail)))))))); refine wpQuiet_nil ?_
                intro w3 hw3
                clear v0 v2 v3 v4 v5 v6 x0 x1 x2 x3 y1 y2 y5 y6
                have HB3 : Hid (Below w1.heap.size w1 w3) := hide ((unhide HB).trans (hw3.mono (unhide HB).size))
                by_cases hp : p1 = p2
                · subst hp
                  go_wp2
                  clear q0 q1
                  obtain ⟨wq, hwq⟩ : ∃ wq, wq = wr := ⟨_, rfl⟩
                  subst hwq
                  go_loopw [8] (fun i wr => ∃ q : Nat, q ≤ p1 ∧ i = .int .i64 q ∧ Hid (∀ j, j < q → l1[j]? = l2[j]?) ∧ Hid (Below wq.heap.size wq wr)) (fun i _ => p1 - (intOf i).toNat)
                  case atStart => exact ⟨0, Nat.zero_le _, rfl, hide (fun j hj => by omega), hide hw3⟩
                  case round =>
                    obtain ⟨q, hq, rfl, HQ2, HBq⟩ := hrel
                    have hBw := (unhide HB).trans ((unhide HBq).mono (unhide HB).size)
                    obtain ⟨x0, x1, x2, x3⟩ := unhide HBX _ hBw
                    have y1 := cell_below (unhide HBq) (unhide HY1)
                    have y2 := cell_below (unhide HBq) (unhide HY2)
                    have q0 : (0 : Int) ≤ (k : Int) := by omega
                    have q1 : (k : Int) < (n1 : Int) := by omega
                    by_cases hqs : q < p1
                    · obtain ⟨i1, hi1⟩ : ∃ x, l1[q]? = some x := ⟨_, List.getElem?_eq_getElem (by rw [unhide HF1]; exact hqs)⟩
                      obtain ⟨i2, hi2⟩ : ∃ x, l2[q]? = some x := ⟨_, List.getElem?_eq_getElem (by rw [unhide HF2]; exact hqs)⟩
                      obtain ⟨h1, cu1, rfl, -, t1⟩ := unhide HZ1 q i1 hi1
                      obtain ⟨h2, cu2, rfl, -, t2⟩ := unhide HZ2 q i2 hi2
                      have t1 := cell_below (unhide HBq) t1
                      have t2 := cell_below (unhide HBq) t2
                      have s0 : (0 : Int) ≤ (q : Int) := by omega
                      have s1 : (q : Int) < (p1 : Int) := by omega
                      have HI1 := hide hi1
                      have HI2 := hide hi2
                      clear hi1 hi2
                      go_upto_region 21 with fail
                      have v0 := Later.cell (block_lt x1) x1
                      have v2 := Later.cell (block_lt x3) x3
                      have v3 := Later.cell (block_lt y1) y1
                      have v4 := Later.cell (block_lt y2) y2
                      have v5 := Later.cell (block_lt t1) t1
                      have v6 := Later.cell (block_lt t2) t2
                      refine wp_region_later wr (by kernel_rfl) (by kernel_rfl) (by repeat (first | exact Below.refl _ _ | assumption | refine Below.alloc ?_ (by first | (simp; done) | (simp; omega) | omega) _ | refine Below.setCell ?_ (by first | (simp; done) | (simp; omega) | omega) _ | apply Below.drew | refine Below.trans ?_ (Below.mono (by assumption) (by first | (simp; done) | (simp; omega) | omega)))) ?_; (repeat (first | go_big_quiet_skip | (go_big_quiet_want; (first | ((fail); go_big_quiet_on; simp only [Act.put, List.setIfInBounds_toArray, List.set_cons_zero, List.set_cons_succ]) | (go_big_quiet_op; (first | go_big_quiet_on | go_big_quiet_call ((fail)))))))); refine wpQuiet_nil ?_
                      intro w4 hw4
                      clear v0 v2 v3 v4 v5 v6 x0 x1 x2 x3 y1 y2 t1 t2
                      have HB4 : Hid (Below wq.heap.size wq w4) := hide ((unhide HBq).trans (hw4.mono (unhide HBq).size))
                      by_cases hii : i1 = i2
                      · subst hii
                        have HQ4 : Hid (∀ j, j < q + 1 → l1[j]? = l2[j]?) := hide (fun j hj => by
                          by_cases e : j = q
                          · subst e; rw [unhide HI1, unhide HI2]
                          · exact unhide HQ2 j (by omega))
                        go_wp2
                        go_roundw
                        case measure => simp [intOf]; omega
                        case rel => exact ⟨q + 1, by omega, by go_num, HQ4, HB4⟩
                      · have hres := unhide hno (.inr (fun e => by
                          subst e
                          have := unhide HL1
                          rw [unhide HL2] at this
                          injection this with this
                          injection this with _ this
                          subst this
                          have := unhide HI1
                          rw [unhide HI2] at this
                          injection this with this
                          exact hii this.symm))
                        subst hres
                        have hfin := unhide HW1 _ ((unhide HB).trans ((unhide HB4).mono (unhide HB).size))
                        go_wp2
                        go_ret
                        exact ⟨rfl, hfin⟩
                    · obtain rfl : q = p1 := by omega
                      have s1 : ¬ (q : Int) < (q : Int) := by omega
                      have HQ4 : Hid (∀ j, j < k + 1 → N1[j]? = N2[j]?) := hide (fun j hj => by
                        by_cases e : j = k
                        · subst e
                          rw [unhide HL1, unhide HL2]
                          congr 2
                          exact ext_of (by rw [unhide HF1, unhide HF2]) (fun i hi => unhide HQ2 i (by rw [unhide HF1] at hi; exact hi))
                        · exact unhide HQ j (by omega))
                      have HBz := hide hBw
                      clear hBw
                      go_wp2
                      go_roundw
                      case measure => simp [intOf]; omega
                      case rel => exact ⟨k + 1, by omega, by go_num, HQ4, HBz⟩
                · have hres := unhide hno (.inr (fun e => by
                    subst e
                    have := unhide HL1
                    rw [unhide HL2] at this
                    injection this with this
                    injection this with _ this
                    subst this
                    exact hp ((unhide HF1).symm.trans (unhide HF2))))
                  subst hres
                  have hfin := unhide HW1 _ (unhide HB3)
                  have hp : ¬ (p1 : Int) = (p2 : Int) := by omega
                  go_wp2
                  go_ret
                  exact ⟨rfl, hfin⟩
              · have hres := unhide hno (.inr (fun e => by
                  subst e
                  have := unhide HL1
                  rw [unhide HL2] at this
                  injection this with this
                  injection this with this _
                  exact haa this.symm))
                subst hres
                have haa1 : decide (a1 = a2) = false := decide_eq_false haa
                have haa2 : (a1 == a2) = false := by simpa using haa
                have haa3 : (a1 != a2) = true := by simpa using haa
                have haa4 : (!decide (a1 = a2)) = true := by simpa using haa
                go_upto_region 16 with fail
                have v0 := Later.cell (block_lt x1) x1
                have v2 := Later.cell (block_lt x3) x3
                have v3 := Later.cell (block_lt y1) y1
                have v4 := Later.cell (block_lt y2) y2
                have v5 := Later.cell (block_lt y5) y5
                have v6 := Later.cell (block_lt y6) y6
                refine wp_region_later wr (by kernel_rfl) (by kernel_rfl) (by repeat (first | exact Below.refl _ _ | assumption | refine Below.alloc ?_ (by first | (simp; done) | (simp; omega) | omega) _ | refine Below.setCell ?_ (by first | (simp; done) | (simp; omega) | omega) _ | apply Below.drew | refine Below.trans ?_ (Below.mono (by assumption) (by first | (simp; done) | (simp; omega) | omega)))) ?_; (repeat (first | go_big_quiet_skip | (go_big_quiet_want; (first | ((fail); go_big_quiet_on; simp only [Act.put, List.setIfInBounds_toArray, List.set_cons_zero, List.set_cons_succ]) | (go_big_quiet_op; (first | go_big_quiet_on | go_big_quiet_call ((fail)))))))); refine wpQuiet_nil ?_
                intro w3 hw3
                clear v0 v2 v3 v4 v5 v6 x0 x1 x2 x3 y1 y2 y5 y6
                have hfin := unhide HW1 _ ((unhide HB).trans (hw3.mono (unhide HB).size))
                go_wp2
                go_ret
                exact ⟨rfl, hfin⟩
            · obtain rfl : k = n1 := by omega
              have s1 : ¬ (k : Int) < (k : Int) := by omega
              have hres : D = true := (unhide HD).2 (by
                rw [unhide HRR, ext_of (l1 := N1) (l2 := N2) (by rw [unhide HE3, unhide HE4]) (fun i hi => unhide HQ i (by rw [unhide HE3] at hi; exact hi))])
              subst hres
              have hfin := unhide HW1 _ (unhide HB)
              go_wp2
              go_ret
              exact ⟨rfl, hfin⟩
    · have hres := unhide hno (.inr (fun e => hn (by rw [← unhide HE3, ← unhide HE4, e])))
      subst hres
      have hn : ¬ (n1 : Int) = (n2 : Int) := by omega
      go_wp2
      go_ret
      exact ⟨rfl, unhide HB1⟩
  · have hres := unhide hno (.inl (fun e => hr (by rw [← unhide HE1, ← unhide HE2, e])))
    subst hres
    have hr : ¬ (r1 : Int) = (r2 : Int) := by omega
    go_wp2
    go_ret
    exact ⟨rfl, unhide HB1⟩
end Go.Proofs.Ytbkaopeajjechaa

namespace Go.Proofs.Ytbkaopeajjechaa
set_option linter.unusedVariables false
set_option linter.unusedSimpArgs false
open Go.RowKit Go.Maps
section
variable {T : Nat} {sp : Int} {A : Option Addr} {len cap : Nat} {S : Nat → ByteArray} {w : World} {ρ : RLay} {G : Gr}

set_option maxRecDepth 100000 in
set_option maxHeartbeats 4000000 in
theorem rWords_any (H : IsR T S w ρ G) (HS : ShOk w A len S) (hok : G.Ok len S T) (hT0 : 1 ≤ T) (hT : T ≤ 8) (hn0 : 1 ≤ G.n) (hn : G.n ≤ 100000) (hlen : len ≤ 1000000) :
    Calls Try.prog 23 #[rV T sp A len cap ρ G.n] w fun e w' => e = .returned (.int .i64 (wordsOf S G (G.reach T S) : Nat)) ∧ Below w.heap.size w w' := by
  obtain ⟨ga, oa, rfl, hgl, hcs⟩ := id (HS (by have := hok.tab.1; omega))
  have HI := hide H
  have HOK := hide hok
  have HSH := hide hcs
  have HCR := hide (fun W (hW : Below w.heap.size w W) => rReach_any (sp := sp) (cap := cap) (H.below hW) (HS.keep hW) hok hT0 hT hn0 hn hlen)
  unfold rV at HCR ⊢
  have hro := reach_ok hok.isIn
  have hrl := reach_len hok.isIn
  generalize G.reach T S = R at *
  have HRO := hide hro
  have HRL := hide hrl
  clear hro hrl H hcs hok HS
  have hs8 : ∀ i, i < len → (S i).size ≤ 8 := fun i hi => ((unhide HOK).tab.2.2 i hi).1
  have hwl : ∀ xs : List Nat, (∀ x ∈ xs, x ∈ R) → wordsOf S G xs ≤ 10 * xs.length := fun xs hx => wordsOf_le hs8 xs (fun x h => by
    have := ((unhide HRO).2 x (hx x h)).2
    exact (unhide HOK).sh x this.1 this.2)
  have HWL := hide hwl
  have HS8 := hide hs8
  clear hwl hs8
  go_enter Try.func23, Try.ntmps23
  go_upto_region 1 with fail
  refine wp_gen ?_
  intro w1 hw1
  have a0 : w1.heap[w.heap.size]? = some (.cells #[.int .i64 (T : Int), .int .i64 sp, .slice (some ⟨ga, oa, none⟩) len cap, .slice (some ⟨ρ.rb, 0, none⟩) T ρ.rc, .slice (some ⟨ρ.sb, 0, none⟩) G.n ρ.sc, .slice (some ⟨ρ.fb, 0, none⟩) G.n ρ.fc] 49 (0, 0)) := by
    rw [hw1]
    exact heap_alloc_new _ _
  have hz1 : w1.heap.size = w.heap.size + 1 := by rw [hw1]; simp
  have hB1 : Below w.heap.size w w1 := by rw [hw1]; repeat (first | exact Below.refl _ _ | assumption | refine Below.alloc ?_ (by first | (simp; done) | (simp; omega) | omega) _ | refine Below.setCell ?_ (by first | (simp; done) | (simp; omega) | omega) _ | apply Below.drew | refine Below.trans ?_ (Below.mono (by assumption) (by first | (simp; done) | (simp; omega) | omega)))
  clear hw1
  have hz1' := Nat.le_of_eq hz1
  have hz1'' := Nat.le_of_eq hz1.symm
  clear hz1
  have c0 : w1.cell? ⟨w.heap.size, 0, none⟩ = some (.int .i64 (T : Int)) := Lib.cell_of_heap a0 0
  have c1 : w1.cell? ⟨w.heap.size, 1, none⟩ = some (.int .i64 sp) := Lib.cell_of_heap a0 1
  have c2 : w1.cell? ⟨w.heap.size, 2, none⟩ = some (.slice (some ⟨ga, oa, none⟩) len cap) := Lib.cell_of_heap a0 2
  have c3 : w1.cell? ⟨w.heap.size, 3, none⟩ = some (.slice (some ⟨ρ.rb, 0, none⟩) T ρ.rc) := Lib.cell_of_heap a0 3
  have c4 : w1.cell? ⟨w.heap.size, 4, none⟩ = some (.slice (some ⟨ρ.sb, 0, none⟩) G.n ρ.sc) := Lib.cell_of_heap a0 4
  have c5 : w1.cell? ⟨w.heap.size, 5, none⟩ = some (.slice (some ⟨ρ.fb, 0, none⟩) G.n ρ.fc) := Lib.cell_of_heap a0 5
  go_wp2_with fail
  refine (unhide HCR _ hB1).mono ?_
  rintro e w3 ⟨v, rfl, hrow, hb3⟩
  clear c0 c1 c2 c3 c4 c5 HCR
  obtain ⟨Av, cv, rfl⟩ := row_sl hrow
  have hz3 := hb3.size
  have HRV : Hid (∀ i (h : i < R.length), ∃ g, Av = some ⟨g, 0, none⟩ ∧ g < w3.heap.size ∧ w3.cell? ⟨g, i, none⟩ = some (.int .i64 (R[i] : Nat))) := hide (fun i h => by
    obtain ⟨g, c, e1, e2, e3, e4, -⟩ := own_form hrow (by omega)
    injection e1 with e1 _ _
    exact ⟨g, e1, e3, e4 i _ (by rw [List.getElem?_map, List.getElem?_eq_getElem h]; rfl)⟩)
  have hBw3 : Below w.heap.size w w3 := hB1.trans (hb3.mono (by omega))
  have HG : Hid (∀ W, Below w3.heap.size w3 W → IsR T S W ρ G ∧ W.heap[w.heap.size]? = some (.cells #[.int .i64 (T : Int), .int .i64 sp, .slice (some ⟨ga, oa, none⟩) len cap, .slice (some ⟨ρ.rb, 0, none⟩) T ρ.rc, .slice (some ⟨ρ.sb, 0, none⟩) G.n ρ.sc, .slice (some ⟨ρ.fb, 0, none⟩) G.n ρ.fc] 49 (0, 0)) ∧ ∀ i, i < len → W.cell? ⟨ga, oa + i, none⟩ = some (.string (S i))) := hide (fun W hW =>
    ⟨((unhide HI).below hBw3).below hW, (hW.block _ (by omega)).trans ((hb3.block _ (by omega)).trans a0), fun i hi => cell_below hW (cell_below hBw3 (unhide HSH i hi))⟩)
  clear hrow a0
  have HNN := hide hn
  clear hn hlen
  go_wp2
  go_loopw [3, 5] (fun m i wr => ∃ k : Nat, k ≤ R.length ∧ i = .int .i64 k ∧ m = .int .i64 (wordsOf S G (R.take k) : Nat) ∧ Hid (Below w3.heap.size w3 wr)) (fun _ i _ => R.length - (intOf i).toNat)
  case atStart => exact ⟨0, Nat.zero_le _, rfl, by rw [List.take_zero]; rfl, hide (Below.refl _ _)⟩
  case round =>
    obtain ⟨k, hk, rfl, rfl, HB⟩ := hrel
    obtain ⟨hG, b0, hsh⟩ := unhide HG _ (unhide HB)
    by_cases hlt : k < R.length
    · obtain ⟨g, rfl, hgs, hgv⟩ := unhide HRV k hlt
      have rv := cell_below (unhide HB) hgv
      have hxD := ((unhide HRO).2 _ (List.getElem_mem hlt)).2
      have hws := wordsOf_snoc (S := S) (G := G) R[k] (R.take k)
      rw [← List.take_succ_eq_append_getElem hlt] at hws
      have hwb := unhide HWL (R.take k) (fun x hx => List.mem_of_mem_take hx)
      rw [List.length_take, Nat.min_eq_left (Nat.le_of_lt hlt)] at hwb
      obtain ⟨x, hx⟩ : ∃ x, x = R[k] := ⟨_, rfl⟩
      rw [← hx] at rv hxD hws
      obtain ⟨y, hxy⟩ : ∃ y, x = y + 1 := ⟨x - 1, by omega⟩
      have hyn : y < G.n := by omega
      have hsl : G.sh (y + 1) < len := (unhide HOK).sh _ (by omega) (by omega)
      have s8 := unhide HS8 _ hsl
      have rs := hG.shp y hyn
      have rt := hsh _ hsl
      rw [hxy] at hws
      have HWS := hide hws
      clear hws
      generalize wordsOf S G (R.take k) = m at *
      generalize S (G.sh (y + 1)) = s at *
      generalize G.sh (y + 1) = sx at *
      have k0 : (0 : Int) ≤ (k : Int) := by omega
      have k1 : (k : Int) < (R.length : Int) := by omega
      have y2 : (x : Int) - 1 = (y : Int) := by omega
      have y3 : (y : Int) ≤ 100000 := by have := unhide HNN; omega
      have y0 : (0 : Int) ≤ (y : Int) := by omega
      have y1 : (y : Int) < (G.n : Int) := by omega
      have s0 : (0 : Int) ≤ (sx : Int) := by omega
      have s1 : (sx : Int) < (len : Int) := by omega
      have hmb : m ≤ 1000000 := by have := unhide HNN; have := unhide HRL; omega
      have hkb : k ≤ 100000 := by have := unhide HNN; have := unhide HRL; omega
      have c2 : wr.cell? ⟨w.heap.size, 2, none⟩ = some (.slice (some ⟨ga, oa, none⟩) len cap) := Lib.cell_of_heap b0 2
      have c4 : wr.cell? ⟨w.heap.size, 4, none⟩ = some (.slice (some ⟨ρ.sb, 0, none⟩) G.n ρ.sc) := Lib.cell_of_heap b0 4
      clear hx hxy hxD hgv b0 hsh hG hwb
      go_upto_region 6 with fail
      have u2 := Later.cell (block_lt c2) c2
      have u4 := Later.cell (block_lt c4) c4
      have us := Later.cell (block_lt rs) rs
      have ut := Later.cell (block_lt rt) rt
      have uv := Later.cell (block_lt rv) rv
      refine wp_region_later wr (by kernel_rfl) (by kernel_rfl) (by repeat (first | exact Below.refl _ _ | assumption | refine Below.alloc ?_ (by first | (simp; done) | (simp; omega) | omega) _ | refine Below.setCell ?_ (by first | (simp; done) | (simp; omega) | omega) _ | apply Below.drew | refine Below.trans ?_ (Below.mono (by assumption) (by first | (simp; done) | (simp; omega) | omega)))) ?_; (repeat (first | go_big_quiet_skip | (go_big_quiet_want; (first | ((fail); go_big_quiet_on; simp only [Act.put, List.setIfInBounds_toArray, List.set_cons_zero, List.set_cons_succ]) | (go_big_quiet_op; (first | go_big_quiet_on | go_big_quiet_call ((fail)))))))); refine wpQuiet_nil ?_
      intro w4 hw4
      clear u2 u4 us ut uv c2 c4 rs rt rv
      have HB4 : Hid (Below w3.heap.size w3 w4) := hide ((unhide HB).trans (hw4.mono (unhide HB).size))
      go_wp2
      go_roundw
      case measure => simp [intOf]; omega
      case rel => exact ⟨k + 1, by omega, by go_num, by rw [unhide HWS]; congr 1; omega, HB4⟩
    · obtain rfl : k = R.length := by omega
      have k2 : ¬ (R.length : Int) < (R.length : Int) := by omega
      rw [List.take_length]
      have hfin := hBw3.trans ((unhide HB).mono hBw3.size)
      clear hG b0 hsh
      go_wp2
      go_ret
      exact ⟨rfl, hfin⟩
end
end Go.Proofs.Ytbkaopeajjechaa
