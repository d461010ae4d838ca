/- The walk of GraphRefuses: it returns true. -/
import Derived.Test.YtbkaopeajjechaaGuG
import Derived.Test.YtbkaopeajjechaaGhC
namespace Go.Proofs.Ytbkaopeajjechaa
set_option linter.unusedVariables false
set_option linter.unusedSimpArgs false
open Go.RowKit Go.Maps

/-- What a box holds. -/
theorem St.heap {T : Nat} {sp : Int} {len : Nat} {S : Nat → ByteArray} {w w' : World} {m : Nat} {gf : Nat → Nat} {Gf : Nat → Gr} {l : List (Nat × Obj)} (h : St T sp len S w w' m gf Gf l) {q : Nat × Obj} (hm : q ∈ l) : w'.heap[q.1]? = some q.2 := (h.choose_spec.outs _ hm).1

/-- A box of a list of one is stored to. -/
theorem St.set3 {T : Nat} {sp : Int} {len : Nat} {S : Nat → ByteArray} {w w' : World} {m : Nat} {gf : Nat → Nat} {Gf : Nat → Gr} {b : Nat} {c : Array Value} {t : TypeId} (h : St T sp len S w w' m gf Gf [(b, .cells c t (0, 0))]) (hb : w.heap.size ≤ b) (hc : ∀ (k : Nat) (s : ByteArray), c[k]? ≠ some (.string s)) (x y z : Value) :
    St T sp len S w (((w'.setCell ⟨b, 0, none⟩ x).setCell ⟨b, 1, none⟩ y).setCell ⟨b, 2, none⟩ z) m gf Gf [(b, .cells (((c.setIfInBounds 0 x).setIfInBounds 1 y).setIfInBounds 2 z) t (0, 0))] := by
  obtain ⟨Lf, h⟩ := h
  have hC : Chg (fun j => j = b) w' (((w'.setCell ⟨b, 0, none⟩ x).setCell ⟨b, 1, none⟩ y).setCell ⟨b, 2, none⟩ z) := (((Chg.refl _ _).set1 _).set1 _).set1 _
  have hx := h.outs _ List.mem_cons_self
  refine ⟨Lf, fun i hi => (h.g i hi).keep hC (fun b' hb' e => hx.2 i hi (e ▸ hb')) (fun a ha e => ?_), h.adr, h.dis, h.sh, Chg.then_below h.b hC (fun j e => by subst e; exact hb) h.b.size, h.base, fun q hq => ?_⟩
  · have hl : 0 < len := by have := (h.g i hi).ok.tab.1; omega
    obtain ⟨g, o, e1, -, hcs⟩ := (h.g i hi).shp hl
    rw [ha] at e1
    cases e1
    have e : g = b := e
    subst e
    have := hcs 0 hl
    rw [Lib.cell_of_heap hx.1] at this
    exact hc _ _ this
  · obtain rfl : q = _ := List.mem_singleton.1 hq
    refine ⟨?_, hx.2⟩
    have h1 := hx.1
    simp only [World.setCell, Array.getElem?_modify]
    rw [h1]
    simp

/-- A graph is let go. -/
theorem St.fewer {T : Nat} {sp : Int} {len : Nat} {S : Nat → ByteArray} {w w' : World} {m m' : Nat} {gf : Nat → Nat} {Gf : Nat → Gr} {l : List (Nat × Obj)} (h : St T sp len S w w' m gf Gf l) (hm : m' ≤ m) : St T sp len S w w' m' gf Gf [] := by
  obtain ⟨Lf, h⟩ := h
  exact ⟨Lf, fun i hi => h.g i (by omega), fun i hi => h.adr i (by omega), fun i j hi hj => h.dis i j (by omega) (by omega), fun i j hi hj => h.sh i j (by omega) (by omega), h.b, fun i hi => h.base i (by omega), fun q hq => by cases hq⟩

set_option maxRecDepth 100000 in
set_option maxHeartbeats 8000000 in
theorem refuses_bad (t sp : Int) (A : Option Addr) (len cap : Nat) (B : Option Addr) (n bc : Nat) (hn : n ≤ 9223372036854775807) (hlen : len ≤ 9223372036854775807) (S : Nat → ByteArray) (w : World) (H : ShOk w A len S) (hS : ∀ i, i < len → (S i).size ≤ maxLen) (hno : okPB t sp len S = false) :
    Calls Try.prog 6 #[.agg #[.int .i64 t, .int .i64 sp, .slice A len cap], .slice B n bc] w fun e w' => e = .returned (.bool true) ∧ Below w.heap.size w w' := by
  have cf := hide (fun W (hW : Below w.heap.size w W) => few_any t sp A len cap S B n bc 40 hn (by omega) hlen W (H.keep hW) hS)
  have cn := hide (fun W (hW : Below w.heap.size w W) => new_no t A cap W (H.keep hW) hlen (fun i hi => by have := hS i hi; unfold maxLen at this; omega) hno)
  clear hS H hno hn hlen
  generalize fewB len S n 40 = b at *
  go_enter Try.func6, Try.ntmps6
  go_wp2_with fail
  refine (unhide cn _ (by repeat (first | exact Below.refl _ _ | assumption | refine Below.alloc ?_ (by first | (simp; done) | (simp; omega) | omega) _ | refine Below.setCell ?_ (by first | (simp; done) | (simp; omega) | omega) _ | apply Below.drew | refine Below.trans ?_ (Below.mono (by assumption) (by first | (simp; done) | (simp; omega) | omega))))).mono ?_
  rintro e w1 ⟨rfl, hb1⟩
  have hw1 : Below w.heap.size w w1 := by
    refine Below.trans ?_ (hb1.mono (by simp))
    repeat (first | exact Below.refl _ _ | assumption | refine Below.alloc ?_ (by first | (simp; done) | (simp; omega) | omega) _ | refine Below.setCell ?_ (by first | (simp; done) | (simp; omega) | omega) _ | apply Below.drew | refine Below.trans ?_ (Below.mono (by assumption) (by first | (simp; done) | (simp; omega) | omega)))
  have p0 : w1.cell? ⟨w.heap.size, 0, none⟩ = some (.int .i64 t) := (hb1.cell (p := ⟨w.heap.size, 0, none⟩) (by simp)).trans (by go_simp)
  have p1 : w1.cell? ⟨w.heap.size, 1, none⟩ = some (.int .i64 sp) := (hb1.cell (p := ⟨w.heap.size, 1, none⟩) (by simp)).trans (by go_simp)
  have p2 : w1.cell? ⟨w.heap.size, 2, none⟩ = some (.slice A len cap) := (hb1.cell (p := ⟨w.heap.size, 2, none⟩) (by simp)).trans (by go_simp)
  clear hb1
  go_wp2_with fail
  refine (unhide cf _ hw1).mono ?_
  rintro e w2 ⟨rfl, hb2⟩
  have HB := hide (hw1.trans (hb2.mono hw1.size))
  clear hb2 p0 p1 p2 hw1
  cases b
  all_goals
    go_wp2_with (first | (go_at_call 12; refine (num_any _ _).mono ?_; rintro e w' ⟨rfl, rfl⟩))
    refine (works09_any _).mono ?_
    rintro e w13 ⟨rfl, hb13⟩
    go_wp2
    go_ret
    exact ⟨rfl, (unhide HB).trans (hb13.mono (unhide HB).size)⟩

set_option maxRecDepth 100000 in
set_option maxHeartbeats 8000000 in
theorem refuses_many (T : Nat) (sp : Int) (A : Option Addr) (len cap : Nat) (B : Option Addr) (n bc : Nat) (hn : n ≤ 9223372036854775807) (hlen : len ≤ 9223372036854775807) (S : Nat → ByteArray) (w : World) (H : ShOk w A len S) (hS : ∀ i, i < len → (S i).size ≤ maxLen) (hok : okPB (T : Int) sp len S = true) (hno : fewB len S n 40 = false) :
    Calls Try.prog 6 #[.agg #[.int .i64 (T : Int), .int .i64 sp, .slice A len cap], .slice B n bc] w fun e w' => e = .returned (.bool true) ∧ Below w.heap.size w w' := by
  have cf := hide (fun W (hW : Below w.heap.size w W) => few_any T sp A len cap S B n bc 40 hn (by omega) hlen W (H.keep hW) hS)
  rw [hno] at cf
  have cn := hide (fun W (hW : Below w.heap.size w W) => st1_new (T := T) (sp := sp) (len := len) (S := S) (cap := cap) (Below.refl _ W) (H.keep hW) hok)
  clear hS H hno hn hlen hok
  go_enter Try.func6, Try.ntmps6
  go_wp2_with fail
  refine (unhide cn _ (by repeat (first | exact Below.refl _ _ | assumption | refine Below.alloc ?_ (by first | (simp; done) | (simp; omega) | omega) _ | refine Below.setCell ?_ (by first | (simp; done) | (simp; omega) | omega) _ | apply Below.drew | refine Below.trans ?_ (Below.mono (by assumption) (by first | (simp; done) | (simp; omega) | omega))))).mono ?_
  rintro e w1 ⟨g, rfl, h1⟩
  have hb1 := St.b h1
  clear h1
  have hw1 : Below w.heap.size w w1 := by
    refine Below.trans ?_ (hb1.mono (by simp))
    repeat (first | exact Below.refl _ _ | assumption | refine Below.alloc ?_ (by first | (simp; done) | (simp; omega) | omega) _ | refine Below.setCell ?_ (by first | (simp; done) | (simp; omega) | omega) _ | apply Below.drew | refine Below.trans ?_ (Below.mono (by assumption) (by first | (simp; done) | (simp; omega) | omega)))
  have p0 : w1.cell? ⟨w.heap.size, 0, none⟩ = some (.int .i64 (T : Int)) := (hb1.cell (p := ⟨w.heap.size, 0, none⟩) (by simp)).trans (by go_simp)
  have p1 : w1.cell? ⟨w.heap.size, 1, none⟩ = some (.int .i64 sp) := (hb1.cell (p := ⟨w.heap.size, 1, none⟩) (by simp)).trans (by go_simp)
  have p2 : w1.cell? ⟨w.heap.size, 2, none⟩ = some (.slice A len cap) := (hb1.cell (p := ⟨w.heap.size, 2, none⟩) (by simp)).trans (by go_simp)
  clear hb1
  go_wp2_with fail
  refine (unhide cf _ hw1).mono ?_
  rintro e w2 ⟨rfl, hb2⟩
  have HB := hide (hw1.trans (hb2.mono hw1.size))
  clear hb2 p0 p1 p2 hw1
  go_wp2_with fail
  refine (works09_any _).mono ?_
  rintro e w13 ⟨rfl, hb13⟩
  go_wp2
  go_ret
  exact ⟨rfl, (unhide HB).trans (hb13.mono (unhide HB).size)⟩

set_option maxRecDepth 100000 in
set_option maxHeartbeats 8000000 in
theorem refuses_ok (T : Nat) (sp : Int) (A : Option Addr) (len cap : Nat) (B : Option Addr) (n bc : Nat) (hn : n ≤ 9223372036854775807) (hlen : len ≤ 9223372036854775807) (S : Nat → ByteArray) (zv : Nat → Nat → Int) (w : World) (H : ShOk w A len S) (hS : ∀ i, i < len → (S i).size ≤ maxLen) (HA : Hid (ActOk w B n zv)) (hf : fewB len S n 40 = true) (hok : okPB (T : Int) sp len S = true) :
    Calls Try.prog 6 #[.agg #[.int .i64 (T : Int), .int .i64 sp, .slice A len cap], .slice B n bc] w fun e w' => e = .returned (.bool true) ∧ Below w.heap.size w w' := by
  have hn40 := (fewB_iff.1 hf).1
  have cf := hide (fun W (hW : Below w.heap.size w W) => few_any T sp A len cap S B n bc 40 hn (by omega) hlen W (H.keep hW) hS)
  rw [hf] at cf
  have HH := hide (fun W (hW : Below w.heap.size w W) => H.keep hW)
  have HOK := hide hok
  clear hf hok hS H hn hlen
  go_enter Try.func6, Try.ntmps6
  go_wp2_with fail
  refine calls_gen ?_
  intro w0 hw0
  have hw0' : [.cells #[.int .i64 (T : Int), .int .i64 sp, .slice A len cap] 24].foldl World.alloc w = w0 := hw0.symm
  have hB0 := allocs_below [.cells #[.int .i64 (T : Int), .int .i64 sp, .slice A len cap] 24] w
  have hz0 := allocs_size [.cells #[.int .i64 (T : Int), .int .i64 sp, .slice A len cap] 24] w
  have hat := allocs_at [.cells #[.int .i64 (T : Int), .int .i64 sp, .slice A len cap] 24] w
  rw [hw0'] at hB0 hz0 hat
  simp only [List.length_cons, List.length_nil] at hz0
  have b0 : w0.heap[w.heap.size]? = _ := hat 0 _ rfl
  have HX0 := hide (fun W (hW : Below w0.heap.size w0 W) => (hW.block _ (Array.getElem?_eq_some_iff.1 b0).1).trans b0)
  clear hw0 hw0' hat b0
  refine (st1_new (T := T) (sp := sp) (len := len) (S := S) (Below.refl _ _) (unhide HH _ hB0) (unhide HOK)).mono ?_
  rintro e w1 ⟨g, rfl, h1⟩
  have H1 := hide h1
  have hb1 := St.b h1
  have hq0 := unhide HX0 w1 hb1
  have p0 : w1.cell? ⟨w.heap.size, 0, none⟩ = some (.int .i64 (T : Int)) := by rw [Lib.cell_of_heap hq0]; rfl
  have p1 : w1.cell? ⟨w.heap.size, 1, none⟩ = some (.int .i64 sp) := by rw [Lib.cell_of_heap hq0]; rfl
  have p2 : w1.cell? ⟨w.heap.size, 2, none⟩ = some (.slice A len cap) := by rw [Lib.cell_of_heap hq0]; rfl
  clear h1 hq0
  go_wp2_with fail
  refine (unhide cf w1 (hB0.trans (hb1.mono (by omega)))).mono ?_
  rintro e w2 ⟨rfl, hb2⟩
  have H2 := hide (St.below (unhide H1) hb2)
  clear hb2 H1 hb1 p0 p1 p2
  go_wp2_with (first | (go_at_call 12; refine (num_any _ _).mono ?_; rintro e w' ⟨rfl, rfl⟩))
  go_loopw [7] (fun i wr => ∃ j : Nat, j ≤ n ∧ i = .int .i64 j ∧ Hid (St1 T sp len S w0 wr g (runG len S T zv j) [])) (fun i _ => n - (intOf i).toNat)
  case atStart => exact ⟨0, Nat.zero_le _, rfl, H2⟩
  case round =>
    obtain ⟨j, hj, rfl, HJ⟩ := hrel
    by_cases hlt : j < n
    · have hGn := runG_n len S T zv j
      have hnx : runG len S T zv (j + 1) = (runG len S T zv j).go len S T (zv j 0) (opz zv j) := rfl
      generalize runG len S T zv j = G at *
      have hze : zv j 0 = zv j 0 := rfl
      have HNX := hide hnx
      clear hnx
      go_wp2_with fail
      refine (st1_copy (unhide HJ) (by omega)).mono ?_
      rintro e w3 ⟨ga, rfl, h3⟩
      have H3 := hide h3
      clear h3 HJ
      go_wp2_with fail
      refine (st_made (unhide H3) (i := 0) (by omega) rfl).mono ?_
      rintro e w' ⟨rfl, rfl⟩
      go_wp2_with fail
      refine (st_view (unhide H3) (i := 0) (by omega) rfl (by show G.n ≤ _; omega)).mono ?_
      rintro e w4 ⟨v4, rfl, hv4, hb4, h4⟩
      have H4 := hide h4
      obtain ⟨ra, na, rfl, ⟨A4, c4, rfl, -⟩, B4, d4, rfl, -⟩ := hv4
      simp only [tri]
      clear hb4 H3 h4
      have hlen4 : (Gr.view T S G).2.length = (G.reach T S).length := by show (List.map _ _).length = _; simp
      rw [hlen4]
      clear hlen4
      generalize (Gr.view T S G).1.length = rl at *
      generalize hrch : (G.reach T S).length = rn at *
      have HRCH := hide hrch
      clear hrch
      have hfd : ∀ W : World, (Instr.field 56 (.agg #[.slice A4 rl c4, .slice B4 rn d4]) 1).run Try.prog W = .ok (.slice B4 rn d4) W := fun _ => by kernel_rfl
      have hb := St.b (unhide H4)
      obtain ⟨bs, o, rfl, hbl, hcs⟩ := unhide HA (by omega)
      have hc : ∀ q, q < 9 → w4.cell? ⟨bs, o + j * 9 + q, none⟩ = some (.int .i64 (zv j q)) := fun q hq => ((hB0.trans (hb.mono (by omega))).cell (p := ⟨bs, _, none⟩) hbl).trans (hcs j hlt q hq)
      have hbw : bs < w4.heap.size := by have := hb.size; omega
      have u0 := Later.cell (w := w4) hbw (hc 0 (by omega))
      have u1 := Later.cell (w := w4) hbw (hc 1 (by omega))
      have u2 := Later.cell (w := w4) hbw (hc 2 (by omega))
      have u3 := Later.cell (w := w4) hbw (hc 3 (by omega))
      have u4 := Later.cell (w := w4) hbw (hc 4 (by omega))
      have u5 := Later.cell (w := w4) hbw (hc 5 (by omega))
      have u6 := Later.cell (w := w4) hbw (hc 6 (by omega))
      have u7 := Later.cell (w := w4) hbw (hc 7 (by omega))
      have u8 := Later.cell (w := w4) hbw (hc 8 (by omega))
      rw [Nat.add_zero] at u0
      have HCS := hide (fun W (hW : Below w0.heap.size w0 W) q (hq : q < 9) => ((hB0.trans (hW.mono (by omega))).cell (p := ⟨bs, o + j * 9 + q, none⟩) hbl).trans (hcs j hlt q hq))
      clear hc hcs u0 u1 u2 u3 u4 u5 u6 u7 u8
      have d0 : (0 : Int) ≤ (j : Int) := by omega
      have d1 : (j : Int) < (n : Int) := by omega
      go_upto_region 9 with fail
      have hlb : bs < w0.heap.size := by omega
      have hz04 := (St.b (unhide H4)).size
      go_cut [11, 12] (fun s11 s12 wx => ∃ p, s11 = .pointer (some ⟨p, 0, none⟩) ∧ s12 = .int .i64 (aF T (zv j 0)) ∧ Hid (St2 T sp len S w0 wx g ga (G.go len S T (zv j 0) (opz zv j)) G [(p, .cells (ansC len S T G (zv j 0) (opz zv j)) 39 (0, 0))]))
      case first =>
        have hS0 : Below w0.heap.size w0 w4.drew ∧ w4.drew.cell? ⟨bs, o + j * 9, none⟩ = some (.int .i64 (zv j 0)) ∧ w4.drew.cell? ⟨bs, o + j * 9 + 1, none⟩ = some (.int .i64 (zv j 1)) ∧ w4.drew.cell? ⟨bs, o + j * 9 + 2, none⟩ = some (.int .i64 (zv j 2)) ∧ w4.drew.cell? ⟨bs, o + j * 9 + 3, none⟩ = some (.int .i64 (zv j 3)) ∧ w4.drew.cell? ⟨bs, o + j * 9 + 4, none⟩ = some (.int .i64 (zv j 4)) ∧ w4.drew.cell? ⟨bs, o + j * 9 + 5, none⟩ = some (.int .i64 (zv j 5)) ∧ w4.drew.cell? ⟨bs, o + j * 9 + 6, none⟩ = some (.int .i64 (zv j 6)) ∧ w4.drew.cell? ⟨bs, o + j * 9 + 7, none⟩ = some (.int .i64 (zv j 7)) ∧ w4.drew.cell? ⟨bs, o + j * 9 + 8, none⟩ = some (.int .i64 (zv j 8)) := by
          refine and_dep ?_ (fun hkq => ⟨(unhide HCS _ hkq 0 (by omega)), (unhide HCS _ hkq 1 (by omega)), (unhide HCS _ hkq 2 (by omega)), (unhide HCS _ hkq 3 (by omega)), (unhide HCS _ hkq 4 (by omega)), (unhide HCS _ hkq 5 (by omega)), (unhide HCS _ hkq 6 (by omega)), (unhide HCS _ hkq 7 (by omega)), (unhide HCS _ hkq 8 (by omega))⟩)
          repeat (first | exact Below.refl _ _ | assumption | refine Below.alloc ?_ (by first | (simp; done) | (simp; omega) | omega) _ | refine Below.setCell ?_ (by first | (simp; done) | (simp; omega) | omega) _ | apply Below.drew | refine Below.trans ?_ (Below.mono (by assumption) (by first | (simp; done) | (simp; omega) | omega)))
        go_region_held3 (fun W => Below w0.heap.size w0 W ∧ W.cell? ⟨bs, o + j * 9, none⟩ = some (.int .i64 (zv j 0)) ∧ W.cell? ⟨bs, o + j * 9 + 1, none⟩ = some (.int .i64 (zv j 1)) ∧ W.cell? ⟨bs, o + j * 9 + 2, none⟩ = some (.int .i64 (zv j 2)) ∧ W.cell? ⟨bs, o + j * 9 + 3, none⟩ = some (.int .i64 (zv j 3)) ∧ W.cell? ⟨bs, o + j * 9 + 4, none⟩ = some (.int .i64 (zv j 4)) ∧ W.cell? ⟨bs, o + j * 9 + 5, none⟩ = some (.int .i64 (zv j 5)) ∧ W.cell? ⟨bs, o + j * 9 + 6, none⟩ = some (.int .i64 (zv j 6)) ∧ W.cell? ⟨bs, o + j * 9 + 7, none⟩ = some (.int .i64 (zv j 7)) ∧ W.cell? ⟨bs, o + j * 9 + 8, none⟩ = some (.int .i64 (zv j 8))) ((first | exact hS0 | (refine and_dep ?_ (fun hkq => ⟨(unhide HCS _ hkq 0 (by omega)), (unhide HCS _ hkq 1 (by omega)), (unhide HCS _ hkq 2 (by omega)), (unhide HCS _ hkq 3 (by omega)), (unhide HCS _ hkq 4 (by omega)), (unhide HCS _ hkq 5 (by omega)), (unhide HCS _ hkq 6 (by omega)), (unhide HCS _ hkq 7 (by omega)), (unhide HCS _ hkq 8 (by omega))⟩); go_split_ands; repeat (first | exact Below.refl _ _ | assumption | refine Below.alloc ?_ (by first | (simp; done) | (simp; omega) | omega) _ | refine Below.setCell ?_ (by first | (simp; done) | (simp; omega) | omega) _ | apply Below.drew | refine Below.trans ?_ (Below.mono (by assumption) (by first | (simp; done) | (simp; omega) | omega)))))) ((first | (go_at_call 14; refine (st2_do0 (St.below (St.box (unhide H4) #[.int .i64 0, .bool false, .int .i64 0] 39) (Below.refl _ _).drew) (by omega) (zv j 0) (opz zv j) rfl).mono ?_; rintro e w5 ⟨rfl, hs5⟩; have hbS := St.b hs5; have hzS := hbS.size; have hx5 := St.heap hs5 List.mem_cons_self; have x50 : w5.cell? ⟨w4.heap.size, 0, none⟩ = some (.int .i64 0) := (by rw [Lib.cell_of_heap hx5]; rfl); have x51 : w5.cell? ⟨w4.heap.size, 1, none⟩ = some (.bool false) := (by rw [Lib.cell_of_heap hx5]; rfl); have x52 : w5.cell? ⟨w4.heap.size, 2, none⟩ = some (.int .i64 0) := (by rw [Lib.cell_of_heap hx5]; rfl); have f50 : ∀ i, w5.frozen? ⟨w4.heap.size, i, none⟩ = false := (fun i => by simp [World.frozen?, hx5]); clear hx5; have HS5 := hide hs5; clear hs5) | (go_at_call 14; refine (st2_do0 (St.below (unhide H4) (Below.refl _ _).drew) (by omega) (zv j 0) (opz zv j) rfl).mono ?_; rintro e w5 ⟨rfl, hs5⟩; have hbS := St.b hs5; have hzS := hbS.size; have HS5 := hide hs5; clear hs5)))
        all_goals go_wp2_with fail
        all_goals go_meet
        · exact ⟨_, rfl, rfl, hide (St.box (unhide HS5) _ _)⟩
        · exact ⟨_, rfl, rfl, hide (St.set3 (unhide HS5) (by omega) (by intro k s h; rcases k with _ | _ | _ | k <;> simp at h) _ _ _)⟩
      case rest =>
        obtain ⟨p, rfl, rfl, H9⟩ := hcut
        obtain ⟨w5, hw5⟩ : ∃ w5, w5 = wc := ⟨_, rfl⟩
        subst hw5
        have hGo := Gr.go_n (len := len) (S := S) (T := T) G (zv j 0) (opz zv j)
        obtain ⟨La, hLa, hGa⟩ := St.isG (unhide H9) (i := 1) (by omega)
        obtain ⟨Lb, hLb, hGb⟩ := St.isG (unhide H9) (i := 0) (by omega)
        have hnd := nodes_go (T := T) (S := S) (len := len) (G := G) hGa.isIn hGa.ok (zv j 0) (opz zv j) hGb.isIn
        have hrl : (G.reach T S).length ≤ G.n := reach_len hGa.isIn
        have hrl2 : ((G.go len S T (zv j 0) (opz zv j)).reach T S).length ≤ (G.go len S T (zv j 0) (opz zv j)).n := reach_len hGb.isIn
        rw [unhide HRCH] at hnd hrl
        have hrf := refused (len := len) (S := S) (T := T) (G := G) (zv j 0) (opz zv j)
        have y0 : w5.cell? ⟨p, 0, none⟩ = some (.int .i64 (G.aE len S T (zv j 0) (opz zv j))) := St.cell (unhide H9) List.mem_cons_self 0
        have y1 : w5.cell? ⟨p, 1, none⟩ = some (.bool (G.aI len S T (zv j 0) (opz zv j))) := St.cell (unhide H9) List.mem_cons_self 1
        have y2 : w5.cell? ⟨p, 2, none⟩ = some (.int .i64 (G.aV len S T (zv j 0) (opz zv j))) := St.cell (unhide H9) List.mem_cons_self 2
        clear hLa hLb hGa hGb La Lb H4 HCS hz04
        unfold ansC at H9
        generalize G.aE len S T (zv j 0) (opz zv j) = aE at *
        generalize G.aI len S T (zv j 0) (opz zv j) = aI at *
        generalize G.aV len S T (zv j 0) (opz zv j) = aV at *
        generalize G.go len S T (zv j 0) (opz zv j) = Gn at *
        generalize aF T (zv j 0) = fe at *
        by_cases hfe : fe = 0
        · by_cases haE : aE = 0
          · subst hfe
            subst haE
            clear hrf
            go_wp2_with (first | (go_at_call 12; refine (num_any _ _).mono ?_; rintro e w' ⟨rfl, rfl⟩))
            refine (st_view (unhide H9) (i := 0) (by omega) rfl (by show Gn.n ≤ _; omega)).mono ?_
            rintro e w8 ⟨v8, rfl, hv8, hb8, h8⟩
            have H8 := hide h8
            obtain ⟨ra8, na8, rfl, ⟨A8, c8, rfl, -⟩, B8, d8, rfl, -⟩ := hv8
            simp only [tri]
            clear hb8 h8
            have hlen8 : (Gr.view T S Gn).2.length = (Gn.reach T S).length := by show (List.map _ _).length = _; simp
            rw [hlen8]
            clear hlen8
            generalize (Gr.view T S Gn).1.length = rl8 at *
            generalize (Gn.reach T S).length = rn8 at *
            have hfd8 : ∀ W : World, (Instr.field 56 (.agg #[.slice A8 rl8 c8, .slice B8 rn8 d8]) 1).run Try.prog W = .ok (.slice B8 rn8 d8) W := fun _ => by kernel_rfl
            go_wp2_with fail
            refine (st_made (unhide H8) (i := 0) (by omega) rfl).mono ?_
            rintro e w' ⟨rfl, rfl⟩
            simp only [tri]
            have g1 : ((rn : Nat) : Int) + (Gn.n : Nat) ≤ 1000000 := by omega
            have g2 : ¬ ((rn8 : Nat) : Int) > (rn : Nat) + (Gn.n : Nat) - (G.n : Nat) := by omega
            go_wp2_with fail
            refine ⟨⟨j + 1, by omega, by go_num, hide ?_⟩, by simp [intOf]; omega⟩
            rw [unhide HNX]
            exact ((unhide H8).fewer (by omega)).congr (fun i hi => by obtain rfl : i = 0 := by omega
                                                                       rfl) (fun i hi => by obtain rfl : i = 0 := by omega
                                                                                            rfl)
          · subst hfe
            obtain ⟨e1, rfl, rfl⟩ := hrf (.inr haE)
            have e1 := e1.symm
            subst e1
            clear hrf
            have hcA : ∀ {W : World}, St2 T sp len S w0 W g ga G G [(p, .cells #[.int .i64 aE, .bool false, .int .i64 0] 39 (0, 0))] → ∀ q, W.cell? ⟨p, q, none⟩ = (#[.int .i64 aE, .bool false, .int .i64 0] : Array Value)[q]? := fun h q => St.cell h List.mem_cons_self q
            go_wp2_with (first | (go_at_call 12; refine (num_any _ _).mono ?_; rintro e w' ⟨rfl, rfl⟩))
            refine (st_same (unhide H9) (i := 0) (k := 1) (by omega) (by omega) rfl rfl (by show G.n ≤ _; omega) (by show G.n ≤ _; omega) true (by simp [tri])).mono ?_
            rintro e w7 ⟨rfl, hb7, h7⟩
            have H7 := hide h7
            clear h7 hb7 H9 y0 y1 y2
            have y0 : w7.cell? ⟨p, 0, none⟩ = some (.int .i64 aE) := hcA (unhide H7) 0
            have y1 : w7.cell? ⟨p, 1, none⟩ = some (.bool false) := hcA (unhide H7) 1
            have y2 : w7.cell? ⟨p, 2, none⟩ = some (.int .i64 0) := hcA (unhide H7) 2
            go_wp2_with fail
            refine (st_made (unhide H7) (i := 0) (by omega) rfl).mono ?_
            rintro e w' ⟨rfl, rfl⟩
            simp only [tri]
            go_wp2_with (first | (go_at_call 12; refine (num_any _ _).mono ?_; rintro e w' ⟨rfl, rfl⟩))
            refine (st_view (unhide H7) (i := 0) (by omega) rfl (by show G.n ≤ _; omega)).mono ?_
            rintro e w8 ⟨v8, rfl, hv8, hb8, h8⟩
            have H8 := hide h8
            obtain ⟨ra8, na8, rfl, ⟨A8, c8, rfl, -⟩, B8, d8, rfl, -⟩ := hv8
            simp only [tri]
            clear hb8 h8
            have hlen8 : (Gr.view T S G).2.length = (G.reach T S).length := by show (List.map _ _).length = _; simp
            rw [hlen8]
            clear hlen8
            generalize (Gr.view T S G).1.length = rl8 at *
            generalize (G.reach T S).length = rn8 at *
            have hfd8 : ∀ W : World, (Instr.field 56 (.agg #[.slice A8 rl8 c8, .slice B8 rn8 d8]) 1).run Try.prog W = .ok (.slice B8 rn8 d8) W := fun _ => by kernel_rfl
            go_wp2_with fail
            refine (st_made (unhide H8) (i := 0) (by omega) rfl).mono ?_
            rintro e w' ⟨rfl, rfl⟩
            simp only [tri]
            have g1 : ((rn : Nat) : Int) + (G.n : Nat) ≤ 1000000 := by omega
            have g2 : ¬ ((rn8 : Nat) : Int) > (rn : Nat) + (G.n : Nat) - (G.n : Nat) := by omega
            go_wp2_with fail
            refine ⟨⟨j + 1, by omega, by go_num, hide ?_⟩, by simp [intOf]; omega⟩
            rw [unhide HNX]
            exact ((unhide H8).fewer (by omega)).congr (fun i hi => by obtain rfl : i = 0 := by omega
                                                                       rfl) (fun i hi => by obtain rfl : i = 0 := by omega
                                                                                            rfl)
        · obtain ⟨e1, rfl, rfl⟩ := hrf (.inl hfe)
          have e1 := e1.symm
          subst e1
          clear hrf
          have hcA : ∀ {W : World}, St2 T sp len S w0 W g ga G G [(p, .cells #[.int .i64 aE, .bool false, .int .i64 0] 39 (0, 0))] → ∀ q, W.cell? ⟨p, q, none⟩ = (#[.int .i64 aE, .bool false, .int .i64 0] : Array Value)[q]? := fun h q => St.cell h List.mem_cons_self q
          go_wp2_with (first | (go_at_call 12; refine (num_any _ _).mono ?_; rintro e w' ⟨rfl, rfl⟩))
          refine (st_same (unhide H9) (i := 0) (k := 1) (by omega) (by omega) rfl rfl (by show G.n ≤ _; omega) (by show G.n ≤ _; omega) true (by simp [tri])).mono ?_
          rintro e w7 ⟨rfl, hb7, h7⟩
          have H7 := hide h7
          clear h7 hb7 H9 y0 y1 y2
          have y0 : w7.cell? ⟨p, 0, none⟩ = some (.int .i64 aE) := hcA (unhide H7) 0
          have y1 : w7.cell? ⟨p, 1, none⟩ = some (.bool false) := hcA (unhide H7) 1
          have y2 : w7.cell? ⟨p, 2, none⟩ = some (.int .i64 0) := hcA (unhide H7) 2
          go_wp2_with fail
          refine (st_made (unhide H7) (i := 0) (by omega) rfl).mono ?_
          rintro e w' ⟨rfl, rfl⟩
          simp only [tri]
          go_wp2_with (first | (go_at_call 12; refine (num_any _ _).mono ?_; rintro e w' ⟨rfl, rfl⟩))
          refine (st_view (unhide H7) (i := 0) (by omega) rfl (by show G.n ≤ _; omega)).mono ?_
          rintro e w8 ⟨v8, rfl, hv8, hb8, h8⟩
          have H8 := hide h8
          obtain ⟨ra8, na8, rfl, ⟨A8, c8, rfl, -⟩, B8, d8, rfl, -⟩ := hv8
          simp only [tri]
          clear hb8 h8
          have hlen8 : (Gr.view T S G).2.length = (G.reach T S).length := by show (List.map _ _).length = _; simp
          rw [hlen8]
          clear hlen8
          generalize (Gr.view T S G).1.length = rl8 at *
          generalize (G.reach T S).length = rn8 at *
          have hfd8 : ∀ W : World, (Instr.field 56 (.agg #[.slice A8 rl8 c8, .slice B8 rn8 d8]) 1).run Try.prog W = .ok (.slice B8 rn8 d8) W := fun _ => by kernel_rfl
          go_wp2_with fail
          refine (st_made (unhide H8) (i := 0) (by omega) rfl).mono ?_
          rintro e w' ⟨rfl, rfl⟩
          simp only [tri]
          have g1 : ((rn : Nat) : Int) + (G.n : Nat) ≤ 1000000 := by omega
          have g2 : ¬ ((rn8 : Nat) : Int) > (rn : Nat) + (G.n : Nat) - (G.n : Nat) := by omega
          go_wp2_with fail
          refine ⟨⟨j + 1, by omega, by go_num, hide ?_⟩, by simp [intOf]; omega⟩
          rw [unhide HNX]
          exact ((unhide H8).fewer (by omega)).congr (fun i hi => by obtain rfl : i = 0 := by omega
                                                                     rfl) (fun i hi => by obtain rfl : i = 0 := by omega
                                                                                          rfl)
    · obtain rfl : j = n := by omega
      have HB := hide (hB0.trans ((St.b (unhide HJ)).mono (by omega)))
      go_wp2_with fail
      refine (works09_any _).mono ?_
      rintro e w13 ⟨rfl, hb13⟩
      go_wp2
      go_ret
      exact ⟨rfl, (unhide HB).trans (hb13.mono (unhide HB).size)⟩

theorem graphRefuses_walk (t : Int) (_ : (Lit.int .i64 t).wf = true) (sp : Int) (_ : (Lit.int .i64 sp).wf = true) (A : Option Addr) (len cap : Nat) (B : Option Addr) (n bc : Nat)  (w : World) (hr : RowOk w 5 [.str] A len cap) (hr2 : RowOk w 5 [.int .i64, .int .i64, .int .i64, .int .i64, .int .i64, .int .i64, .int .i64, .int .i64, .int .i64] B n bc) :
    Calls Try.prog 6 #[.agg #[.int .i64 t, .int .i64 sp, .slice A len cap], .slice B n bc] w fun e w' => e = .returned (.bool true) ∧ Below w.heap.size w w' := by
  have hm := hr.1
  have hm2 := hr.2.1
  have hn := hr2.1
  have hn2 := hr2.2.1
  unfold maxLen at hm2 hn2
  obtain ⟨S, H, hS⟩ := ShOk.of_row hr
  obtain ⟨zv, HA⟩ := ActOk.of_row hr2
  cases e1 : okPB t sp len S with
  | false => exact refuses_bad t sp A len cap B n bc (by omega) (by omega)  S w H hS e1
  | true =>
    have h8 := (okPB_iff.1 e1).1
    obtain ⟨T, rfl⟩ : ∃ T : Nat, t = (T : Int) := ⟨t.toNat, by omega⟩
    cases e2 : fewB len S n 40 with
    | false => exact refuses_many T sp A len cap B n bc (by omega) (by omega)  S w H hS e1 e2
    | true => exact refuses_ok T sp A len cap B n bc (by omega) (by omega)  S zv w H hS (hide HA) e2 e1
end Go.Proofs.Ytbkaopeajjechaa

