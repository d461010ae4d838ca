/- The statements of layer 9: graphs of the program and of the reference side by side; does. The statements of layer 9: does. The statements of layer 9: a class of worlds (a base below, boxes kept); Right and New of the reference; does on one graph. -/
import Derived.Test.YtbkaopeajjechaaHvD
import Derived.Test.YtbkaopeajjechaaRv
namespace Go.Proofs.Ytbkaopeajjechaa
set_option linter.unusedVariables false
set_option linter.unusedSimpArgs false
open Go.RowKit Go.Maps

theorem wp_region_treeG_chd (κ : List Nat) (k : Nat) (E : List (Nat × Nat)) {P : Program} (Z : Nat → Prop) (w0 : World) {id : Nat} {Q : Exit → Act → World → Prop} {a : Act} {w : World} {L : List Oper} (hm : P.follows .mixedOrders = true) (hB : treeGB L κ k E = true) (hC : Chg Z w0 w.drew)
    (h : wpQuiet P (diesOps L (kblk κ)).toArray (fun U => ∃ s : Chd Z w0, U = s.val) (fun a' => treeGp P (fun U => Chg Z w0 U) a' E L (fun ps U => wpList P L.toArray Q (L.drop k) (applyP ps a') U) (sideIdx κ k).length (sideIdx κ k) [] w.drew) (diesOps L (kblk κ)) a) : (Code.region id L.toArray true).wp P Q a w := by
  refine wp_region_treeG (C := fun U => ∃ s : Chd Z w0, U = s.val) κ k E hm hB (Chd.iff.2 hC) ?_
  have e : (fun U => ∃ s : Chd Z w0, U = s.val) = (fun U => Chg Z w0 U) := funext fun U => propext Chd.iff
  rw [e] at h ⊢
  exact h

/-- The blocks that a graph of the reference reads, as a list; with what stands there. -/
def Bk (T : Nat) (S : Nat → ByteArray) (ρ : RLay) (G : Gr) : List Nat := ρ.rb :: ρ.sb :: ρ.fb :: ((List.range T).map ρ.rh ++ ((List.range G.n).filter fun x => decide (0 < (S (G.sh (x + 1))).size)).map ρ.fh)
theorem mem_Bk {T : Nat} {S : Nat → ByteArray} {ρ : RLay} {G : Gr} {b : Nat} : b ∈ Bk T S ρ G ↔ RBlk T S ρ G b := by
  unfold Bk RBlk
  simp only [List.mem_cons, List.mem_append, List.mem_map, List.mem_filter, List.mem_range, decide_eq_true_eq]
  constructor
  · rintro (h | h | h | ⟨t, ht, h⟩ | ⟨x, ⟨hx, h0⟩, h⟩)
    · exact .inl h
    · exact .inr (.inl h)
    · exact .inr (.inr (.inl h))
    · exact .inr (.inr (.inr (.inl ⟨t, ht, h.symm⟩)))
    · exact .inr (.inr (.inr (.inr ⟨x, hx, h0, h.symm⟩)))
  · rintro (h | h | h | ⟨t, ht, h⟩ | ⟨x, hx, h0, h⟩)
    · exact .inl h
    · exact .inr (.inl h)
    · exact .inr (.inr (.inl h))
    · exact .inr (.inr (.inr (.inl ⟨t, ht, h.symm⟩)))
    · exact .inr (.inr (.inr (.inr ⟨x, ⟨hx, h0⟩, h.symm⟩)))
def rL (T : Nat) (S : Nat → ByteArray) (ρ : RLay) (G : Gr) (W : World) : List (Nat × Obj) := (Bk T S ρ G).filterMap fun b => (W.heap[b]?).map fun o => (b, o)
theorem mem_rL {T : Nat} {S : Nat → ByteArray} {ρ : RLay} {G : Gr} {W : World} {q : Nat × Obj} : q ∈ rL T S ρ G W ↔ RBlk T S ρ G q.1 ∧ W.heap[q.1]? = some q.2 := by
  unfold rL
  rw [List.mem_filterMap]
  constructor
  · rintro ⟨b, hb, h⟩
    cases ho : W.heap[b]? with
    | none => rw [ho] at h; cases h
    | some o =>
      rw [ho] at h
      injection h with h
      subst h
      exact ⟨mem_Bk.1 hb, ho⟩
  · rintro ⟨h1, h2⟩
    exact ⟨q.1, mem_Bk.2 h1, by rw [h2]; rfl⟩

/-- A graph of the reference lies in these blocks. -/
structure RefAt (T : Nat) (S : Nat → ByteArray) (lr : List (Nat × Obj)) (ρ : RLay) (G : Gr) : Prop where
  all : ∀ W : World, (∀ q ∈ lr, W.heap[q.1]? = some q.2) → IsR T S W ρ G
  blk : ∀ b, RBlk T S ρ G b → ∃ o, (b, o) ∈ lr

theorem IsR.refAt {T : Nat} {S : Nat → ByteArray} {ρ : RLay} {G : Gr} {w : World} (h : IsR T S w ρ G) (hT : 1 ≤ T) (hn : 1 ≤ G.n) : RefAt T S (rL T S ρ G w) ρ G := by
  have hat : ∀ b, RBlk T S ρ G b → ∃ o, w.heap[b]? = some o := fun b hb => ⟨_, Array.getElem?_eq_getElem (h.lt hT hn b hb)⟩
  refine ⟨fun W hW => ?_, fun b hb => ?_⟩
  · have key : ∀ {b o : Nat} {v : Value}, w.cell? ⟨b, o, none⟩ = some v → RBlk T S ρ G b → W.cell? ⟨b, o, none⟩ = some v := fun {b o v} h1 h2 => by
      obtain ⟨ob, hob⟩ := hat b h2
      have := hW (b, ob) (mem_rL.2 ⟨h2, hob⟩)
      exact (World.cell?_of_block (a := ⟨b, o, none⟩) (this.trans hob.symm)).trans h1
    exact ⟨fun t ht => key (h.rows t ht) (.inl rfl), fun t s ht hs => key (h.root t s ht hs) (.inr (.inr (.inr (.inl ⟨t, ht, rfl⟩)))), fun x hx => key (h.shp x hx) (.inr (.inl rfl)), fun x hx => key (h.flds x hx) (.inr (.inr (.inl rfl))),
      fun x f hx hf => key (h.fld x f hx hf) (.inr (.inr (.inr (.inr ⟨x, hx, by omega, rfl⟩))))⟩
  · obtain ⟨o, ho⟩ := hat b hb
    exact ⟨o, mem_rL.2 ⟨hb, ho⟩⟩

section
variable {T : Nat} {sp : Int} {len cap : Nat} {S : Nat → ByteArray} {w w1 w2 W : World} {m : Nat} {gf : Nat → Nat} {Gf : Nat → Gr} {l : List (Nat × Obj)}

/-- A graph of the reference more. -/
theorem St.ref {ρ : RLay} {G : Gr} (h : St T sp len S w w2 m gf Gf l) (hb : Below w2.heap.size w2 W) (hR : IsR T S W ρ G) (hT : 1 ≤ T) (hn : 1 ≤ G.n) (hbk : ∀ b, RBlk T S ρ G b → (∃ o, (b, o) ∈ l) ∨ w2.heap.size ≤ b) :
    ∃ lr, RefAt T S lr ρ G ∧ (∀ q ∈ lr, RBlk T S ρ G q.1) ∧ St T sp len S w W m gf Gf (lr ++ l) := by
  refine ⟨_, hR.refAt hT hn, fun q hq => (mem_rL.1 hq).1, ?_⟩
  have hW := h.below hb
  obtain ⟨Lf, h⟩ := h
  refine ⟨Lf, fun i hi => (h.g i hi).below hb, h.adr, h.dis, h.sh, h.b.trans (hb.mono h.b.size), h.base, fun q hq => ?_⟩
  rcases List.mem_append.1 hq with hq | hq
  · obtain ⟨h1, h2⟩ := mem_rL.1 hq
    refine ⟨h2, fun i hi ho => ?_⟩
    rcases hbk _ h1 with ⟨o, h3⟩ | h3
    · exact (h.outs _ h3).2 i hi ho
    · have := (h.g i hi).lt _ ho
      omega
  · exact ⟨(hb.block _ (Array.getElem?_eq_some_iff.1 (h.outs q hq).1).1).trans (h.outs q hq).1, (h.outs q hq).2⟩

theorem St.isR {lr : List (Nat × Obj)} {ρ : RLay} {G : Gr} (h : St T sp len S w w1 m gf Gf l) (hr : RefAt T S lr ρ G) (hl : ∀ q ∈ lr, q ∈ l) : IsR T S w1 ρ G :=
  hr.all w1 (fun q hq => (h.choose_spec.outs q (hl q hq)).1)

theorem go_out (G : Gr) (t : Nat) (ht : t < T) (z : Nat → Int) : G.out len S t z = .agg #[.int .i64 (G.aE len S T t z), .bool (G.aI len S T t z), .int .i64 (G.aV len S T t z)] ∧ G.go len S T t z = G.next len S t z ∧ aF T (t : Int) = 0 := by
  have h : (0 : Int) ≤ (t : Int) ∧ (t : Int) < (T : Int) := by omega
  unfold Gr.aE Gr.aI Gr.aV Gr.go aF Gr.out
  simp only [if_pos h, Int.toNat_natCast]
  refine ⟨?_, by first | trivial | rfl, by first | trivial | rfl⟩
  by_cases he : G.err len S t z = 0
  · simp only [he, if_true]
  · simp only [he, if_false]

theorem go_bad (G : Gr) (t : Int) (ht : ¬ (0 ≤ t ∧ t < (T : Int))) (z : Nat → Int) : ansV len S T G t z = .agg #[.int .i64 0, .bool false, .int .i64 0] ∧ G.go len S T t z = G ∧ aF T t = 4 := by
  unfold ansV Gr.aE Gr.aI Gr.aV Gr.go aF
  simp only [if_neg ht]
  exact ⟨by first | trivial | rfl, by first | trivial | rfl, by first | trivial | rfl⟩
end
end Go.Proofs.Ytbkaopeajjechaa

namespace Go.Proofs.Ytbkaopeajjechaa
set_option linter.unusedVariables false
set_option linter.unusedSimpArgs false
open Go.RowKit Go.Maps
section
variable {T : Nat} {sp : Int} {len cap : Nat} {S : Nat → ByteArray} {w w1 w2 W : World} {m : Nat} {gf : Nat → Nat} {Gf : Nat → Gr} {l : List (Nat × Obj)} {A : Option Addr}

theorem St.heapAt (h : St T sp len S w w1 m gf Gf l) {b : Nat} {o : Obj} (hm : (b, o) ∈ l) : w1.heap[b]? = some o := (h.choose_spec.outs _ hm).1
theorem St.heap (h : St T sp len S w w1 m gf Gf l) {q : Nat × Obj} (hm : q ∈ l) : w1.heap[q.1]? = some q.2 := (h.choose_spec.outs _ hm).1

/-- A box that holds no string is changed. -/
theorem St.chg1 {b : Nat} {c : Array Value} {t : TypeId} {l' : List (Nat × Obj)} (h : St T sp len S w w1 m gf Gf l) (hC : Chg (fun j => j = b) w1 W) (hm : (b, .cells c t (0, 0)) ∈ l) (hb : w.heap.size ≤ b) (hc : ∀ (k : Nat) (s : ByteArray), c[k]? ≠ some (.string s)) (hl : ∀ q ∈ l', q ∈ l ∧ q.1 ≠ b) :
    St T sp len S w W m gf Gf l' := by
  obtain ⟨Lf, h⟩ := h
  have hx := h.outs _ hm
  refine ⟨Lf, fun i hi => (h.g i hi).keep hC (fun b' hb' e => hx.2 i hi (e ▸ hb')) (fun a ha e => ?_), h.adr, h.dis, h.sh, Chg.then_below h.b hC (fun j e => by subst e; exact hb) h.b.size, h.base, fun q hq => ?_⟩
  · have hl0 : 0 < len := by have := (h.g i hi).ok.tab.1; omega
    obtain ⟨g, o, e1, -, hcs⟩ := (h.g i hi).shp hl0
    rw [ha] at e1
    cases e1
    have e : g = b := e
    subst e
    have := hcs 0 hl0
    rw [Lib.cell_of_heap hx.1] at this
    exact hc _ _ this
  · obtain ⟨h1, h2⟩ := hl q hq
    exact ⟨(hC.block _ (Array.getElem?_eq_some_iff.1 (h.outs q h1).1).1 h2).trans (h.outs q h1).1, (h.outs q h1).2⟩

theorem nostr6 : ∀ (k : Nat) (s : ByteArray), (#[.int .i64 0, .int .i64 0, .slice none 0 0, .slice none 0 0, .slice none 0 0, .slice none 0 0] : Array Value)[k]? ≠ some (.string s) := by
  intro k s
  match k with
  | 0 => simp
  | 1 => simp
  | 2 => simp
  | 3 => simp
  | 4 => simp
  | 5 => simp
  | k + 6 => simp

theorem put6 {b : Nat} {a0 a1 a2 a3 a4 a5 x0 x1 x2 x3 x4 x5 : Value} {t : TypeId} (h : W.heap[b]? = some (Obj.cells #[a0, a1, a2, a3, a4, a5] t (0, 0))) :
    ((((((W.setCell ⟨b, 0, none⟩ x0).setCell ⟨b, 1, none⟩ x1).setCell ⟨b, 2, none⟩ x2).setCell ⟨b, 3, none⟩ x3).setCell ⟨b, 4, none⟩ x4).setCell ⟨b, 5, none⟩ x5).heap[b]? = some (Obj.cells #[x0, x1, x2, x3, x4, x5] t (0, 0)) := by
  have h1 := heap_setCell_same _ b 0 _ _ x0 h
  have h2 := heap_setCell_same _ b 1 _ _ x1 h1
  have h3 := heap_setCell_same _ b 2 _ _ x2 h2
  have h4 := heap_setCell_same _ b 3 _ _ x3 h3
  have h5 := heap_setCell_same _ b 4 _ _ x4 h4
  have h6 := heap_setCell_same _ b 5 _ _ x5 h5
  exact h6.trans rfl

set_option maxRecDepth 100000 in
set_option maxHeartbeats 4000000 in
theorem does_any {i g : Nat} (h : St T sp len S w w1 m gf Gf l) (hi : i < m) (hg : gf i = g) {lr : List (Nat × Obj)} {ρ : RLay} (hr : RefAt T S lr ρ (Gf i)) (hl : ∀ q ∈ lr, q ∈ l) (HS : ShOk w A len S) (hn0 : 1 ≤ (Gf i).n) (hn : (Gf i).n ≤ 99999) (t : Int) (z : Nat → Int) :
    Calls Try.prog 18 #[.pointer (some ⟨g, 0, none⟩), rV T sp A len cap ρ (Gf i).n, .agg #[.int .i64 t, .int .i64 (z 0), .int .i64 (z 1), .int .i64 (z 2), .int .i64 (z 3), .int .i64 (z 4), .int .i64 (z 5), .int .i64 (z 6), .int .i64 (z 7)]] w1 fun e w' => ∃ ρ' lr', e = .returned (.tuple #[rV T sp A len cap ρ' ((Gf i).go len S T t z).n, .bool true]) ∧ RefAt T S lr' ρ' ((Gf i).go len S T t z) ∧ (∀ q ∈ lr', (∃ o, (q.1, o) ∈ lr) ∨ w1.heap.size ≤ q.1) ∧ St T sp len S w w' m gf (updG Gf i ((Gf i).go len S T t z)) (lr' ++ l) := by
  have hT1 := h.one hi
  have hok := h.ok hi
  have HH := hide h
  have HR := hide hr
  have HL := hide hl
  have HOK := hide hok
  have hD : Hid (∀ W l', St T sp len S w W m gf Gf l' → Calls Try.prog 14 #[.pointer (some ⟨g, 0, none⟩), .int .i64 t, .agg #[.int .i64 (z 0), .int .i64 (z 1), .int .i64 (z 2), .int .i64 (z 3), .int .i64 (z 4), .int .i64 (z 5), .int .i64 (z 6), .int .i64 (z 7)]] W fun e w' =>
      e = .returned (.tuple #[.agg #[.int .i64 ((Gf i).aE len S T t z), .bool ((Gf i).aI len S T t z), .int .i64 ((Gf i).aV len S T t z)], .int .i64 (aF T t)]) ∧ St T sp len S w w' m gf (updG Gf i ((Gf i).go len S T t z)) l') := hide (fun W l' hW => st_do hW hi hg (by omega) t z)
  unfold rV
  clear h hr hl hok
  go_enter Try.func18, Try.ntmps18
  go_upto_region 1 with fail
  refine wp_gen ?_
  intro wC hwC
  have hs0 : St T sp len S w wC m gf Gf ((w1.heap.size + 2, .cells #[.int .i64 0, .int .i64 0, .slice none 0 0, .slice none 0 0, .slice none 0 0, .slice none 0 0] 49 (0, 0)) :: (w1.heap.size + 1, .cells #[.int .i64 t, .int .i64 (z 0), .int .i64 (z 1), .int .i64 (z 2), .int .i64 (z 3), .int .i64 (z 4), .int .i64 (z 5), .int .i64 (z 6), .int .i64 (z 7)] 30 (0, 0)) :: (w1.heap.size, .cells #[.int .i64 (T : Int), .int .i64 sp, .slice A len cap, .slice (some ⟨ρ.rb, 0, none⟩) T ρ.rc, .slice (some ⟨ρ.sb, 0, none⟩) (Gf i).n ρ.sc, .slice (some ⟨ρ.fb, 0, none⟩) (Gf i).n ρ.fc] 49 (0, 0)) :: l) := by
    rw [hwC]
    have := ((((unhide HH).box #[.int .i64 (T : Int), .int .i64 sp, .slice A len cap, .slice (some ⟨ρ.rb, 0, none⟩) T ρ.rc, .slice (some ⟨ρ.sb, 0, none⟩) (Gf i).n ρ.sc, .slice (some ⟨ρ.fb, 0, none⟩) (Gf i).n ρ.fc] 49).box #[.int .i64 t, .int .i64 (z 0), .int .i64 (z 1), .int .i64 (z 2), .int .i64 (z 3), .int .i64 (z 4), .int .i64 (z 5), .int .i64 (z 6), .int .i64 (z 7)] 30).box #[.int .i64 0, .int .i64 0, .slice none 0 0, .slice none 0 0, .slice none 0 0, .slice none 0 0] 49)
    simp only [World.size_alloc] at this
    exact this
  have hzC : w1.heap.size + 3 ≤ wC.heap.size := by rw [hwC]; simp
  have hz1 : w.heap.size ≤ w1.heap.size := (unhide HH).b.size
  clear hwC
  have d1 := hs0.heapAt (b := w1.heap.size + 1) (o := .cells #[.int .i64 t, .int .i64 (z 0), .int .i64 (z 1), .int .i64 (z 2), .int .i64 (z 3), .int .i64 (z 4), .int .i64 (z 5), .int .i64 (z 6), .int .i64 (z 7)] 30 (0, 0)) (by simp)
  obtain ⟨o0, o1, o2, o3, o4, o5, o6, o7, o8⟩ := cells9 d1
  go_wp2_with fail
  refine (unhide hD _ _ hs0).mono ?_
  rintro e w2 ⟨rfl, hs2⟩
  clear o0 o1 o2 o3 o4 o5 o6 o7 o8 d1
  have hs3 := hs2.box #[.int .i64 ((Gf i).aE len S T t z), .bool ((Gf i).aI len S T t z), .int .i64 ((Gf i).aV len S T t z)] 39
  have hz2 : w1.heap.size + 2 < w2.heap.size := hs2.lt (q := (w1.heap.size + 2, .cells #[.int .i64 0, .int .i64 0, .slice none 0 0, .slice none 0 0, .slice none 0 0, .slice none 0 0] 49 (0, 0))) (by simp)
  clear hs0 hs2 hD
  by_cases ht : 0 ≤ t ∧ t < (T : Int)
  · obtain ⟨tn, rfl⟩ : ∃ tn : Nat, t = (tn : Int) := ⟨t.toNat, by omega⟩
    have htn : tn < T := by omega
    obtain ⟨e1, e2, e3⟩ := go_out (len := len) (S := S) (Gf i) tn htn z
    rw [e3]
    have HRD : Hid (∀ W, IsR T S W ρ (Gf i) → ShOk W A len S → Calls Try.prog 40 #[.agg #[.int .i64 (T : Int), .int .i64 sp, .slice A len cap, .slice (some ⟨ρ.rb, 0, none⟩) T ρ.rc, .slice (some ⟨ρ.sb, 0, none⟩) (Gf i).n ρ.sc, .slice (some ⟨ρ.fb, 0, none⟩) (Gf i).n ρ.fc], .int .i64 (tn : Int), .agg #[.int .i64 (z 0), .int .i64 (z 1), .int .i64 (z 2), .int .i64 (z 3), .int .i64 (z 4), .int .i64 (z 5), .int .i64 (z 6), .int .i64 (z 7)]] W (RDone T sp A len cap S W ρ (Gf i) ((Gf i).go len S T tn z) (.agg #[.int .i64 ((Gf i).aE len S T tn z), .bool ((Gf i).aI len S T tn z), .int .i64 ((Gf i).aV len S T tn z)]))) := hide (fun W hW hSW => by
      have := rDo_any (sp := sp) (cap := cap) hW hSW (unhide HOK) hT1.1 hT1.2 (by omega) (by omega) (by have := (unhide HOK).tab.2.1; omega) tn htn z
      rw [e1, ← e2] at this
      unfold rV at this
      exact this)
    clear e1 e2 e3
    have HGN : Hid (1 ≤ ((Gf i).go len S T tn z).n) := hide (by have := ((Gf i).go_n (len := len) (S := S) (T := T) tn z).2; omega)
    generalize (Gf i).aE len S T tn z = oe at *
    generalize (Gf i).aI len S T tn z = oi at *
    generalize (Gf i).aV len S T tn z = ov at *
    generalize hgo : (Gf i).go len S T tn z = G' at *
    have HGO := hide hgo
    clear hgo
    have HHS := hide hs3
    clear hs3
    go_upto_region 2 with fail
    refine wp_gen ?_
    intro wD hwD
    have hs3 : St T sp len S w wD m gf (updG Gf i G') ((w2.heap.size, .cells #[.int .i64 oe, .bool oi, .int .i64 ov] 39 (0, 0)) :: (w1.heap.size + 2, .cells #[.int .i64 0, .int .i64 0, .slice none 0 0, .slice none 0 0, .slice none 0 0, .slice none 0 0] 49 (0, 0)) :: (w1.heap.size + 1, .cells #[.int .i64 (tn : Int), .int .i64 (z 0), .int .i64 (z 1), .int .i64 (z 2), .int .i64 (z 3), .int .i64 (z 4), .int .i64 (z 5), .int .i64 (z 6), .int .i64 (z 7)] 30 (0, 0)) :: (w1.heap.size, .cells #[.int .i64 (T : Int), .int .i64 sp, .slice A len cap, .slice (some ⟨ρ.rb, 0, none⟩) T ρ.rc, .slice (some ⟨ρ.sb, 0, none⟩) (Gf i).n ρ.sc, .slice (some ⟨ρ.fb, 0, none⟩) (Gf i).n ρ.fc] 49 (0, 0)) :: l) := by
      rw [hwD]
      exact unhide HHS
    clear hwD HHS
    have x1 := hs3.heapAt (b := w1.heap.size + 1) (o := .cells #[.int .i64 (tn : Int), .int .i64 (z 0), .int .i64 (z 1), .int .i64 (z 2), .int .i64 (z 3), .int .i64 (z 4), .int .i64 (z 5), .int .i64 (z 6), .int .i64 (z 7)] 30 (0, 0)) (by simp)
    have x2 := hs3.heapAt (b := w1.heap.size) (o := .cells #[.int .i64 (T : Int), .int .i64 sp, .slice A len cap, .slice (some ⟨ρ.rb, 0, none⟩) T ρ.rc, .slice (some ⟨ρ.sb, 0, none⟩) (Gf i).n ρ.sc, .slice (some ⟨ρ.fb, 0, none⟩) (Gf i).n ρ.fc] 49 (0, 0)) (by simp)
    obtain ⟨o0, o1, o2, o3, o4, o5, o6, o7, o8⟩ := cells9 x1
    obtain ⟨c0, c1, c2, c3, c4, c5⟩ := cells6 x2
    have hI := hs3.isR (unhide HR) (fun q hq => by simp [unhide HL q hq])
    have hSW := HS.keep hs3.b
    have HI := hide hI
    have HSW := hide hSW
    have H3 := hide hs3
    clear hI hSW hs3 x1 x2
    have t0 : ¬ (tn : Int) < 0 := by omega
    have t1 : ¬ (T : Int) ≤ (tn : Int) := by omega
    have t2 : (tn : Int) < (T : Int) := by omega
    go_wp2_with fail
    refine (unhide HRD _ (unhide HI) (unhide HSW)).mono ?_
    rintro e w3 ⟨ρ', rfl, hI3, hb3, hk3⟩
    clear o0 o1 o2 o3 o4 o5 o6 o7 o8 c0 c1 c2 c3 c4 c5 t0 t1 t2 HI HSW HRD
    obtain ⟨lr', hR', hrb, hs4⟩ := (unhide H3).ref hb3 hI3 hT1.1 (unhide HGN) (fun b hb => (hk3 b hb).imp (fun h => by
      obtain ⟨o, ho⟩ := (unhide HR).blk b h
      exact ⟨o, by simp [unhide HL _ ho]⟩) id)
    have hz3 : w1.heap.size + 2 < w3.heap.size := hs4.lt (q := (w1.heap.size + 2, .cells #[.int .i64 0, .int .i64 0, .slice none 0 0, .slice none 0 0, .slice none 0 0, .slice none 0 0] 49 (0, 0))) (by simp)
    have hwd : w1.heap.size + 2 < wD.heap.size := (unhide H3).lt (q := (w1.heap.size + 2, .cells #[.int .i64 0, .int .i64 0, .slice none 0 0, .slice none 0 0, .slice none 0 0, .slice none 0 0] 49 (0, 0))) (by simp)
    have HRB : Hid (∀ q ∈ lr', (∃ o, (q.1, o) ∈ lr) ∨ w1.heap.size ≤ q.1) := hide (fun q hq => by
      rcases hk3 _ (hrb q hq) with h9 | h9
      · exact .inl ((unhide HR).blk _ h9)
      · exact .inr (by omega))
    have HNE : Hid (∀ q ∈ lr' ++ l, q.1 ≠ w1.heap.size + 2) := hide (fun q hq => by
      have hl9 : ∀ q ∈ l, q.1 < w1.heap.size := fun q hq => (unhide HH).lt hq
      rcases List.mem_append.1 hq with hq | hq
      · rcases hk3 _ (hrb q hq) with h9 | h9
        · obtain ⟨o, ho⟩ := (unhide HR).blk _ h9
          have := hl9 _ (unhide HL _ ho)
          have this : q.1 < w1.heap.size := this
          omega
        · omega
      · have := hl9 q hq
        omega)
    have hs5 := (hs4.box #[.int .i64 (T : Int), .int .i64 sp, .slice A len cap, .slice (some ⟨ρ'.rb, 0, none⟩) T ρ'.rc, .slice (some ⟨ρ'.sb, 0, none⟩) G'.n ρ'.sc, .slice (some ⟨ρ'.fb, 0, none⟩) G'.n ρ'.fc] 49).box #[.int .i64 oe, .bool oi, .int .i64 ov] 39
    simp only [World.size_alloc] at hs5
    have H5 := hide hs5
    have HR' := hide hR'
    clear hs4 hs5 hR' H3 hI3 hb3 hk3 hrb
    unfold rV
    go_upto_region 5 with fail
    refine wp_gen ?_
    intro wE hwE
    have hs5 : St T sp len S w wE m gf (updG Gf i G') ((w3.heap.size + 1, .cells #[.int .i64 oe, .bool oi, .int .i64 ov] 39 (0, 0)) :: (w3.heap.size, .cells #[.int .i64 (T : Int), .int .i64 sp, .slice A len cap, .slice (some ⟨ρ'.rb, 0, none⟩) T ρ'.rc, .slice (some ⟨ρ'.sb, 0, none⟩) G'.n ρ'.sc, .slice (some ⟨ρ'.fb, 0, none⟩) G'.n ρ'.fc] 49 (0, 0)) :: (lr' ++ ((w2.heap.size, .cells #[.int .i64 oe, .bool oi, .int .i64 ov] 39 (0, 0)) :: (w1.heap.size + 2, .cells #[.int .i64 0, .int .i64 0, .slice none 0 0, .slice none 0 0, .slice none 0 0, .slice none 0 0] 49 (0, 0)) :: (w1.heap.size + 1, .cells #[.int .i64 (tn : Int), .int .i64 (z 0), .int .i64 (z 1), .int .i64 (z 2), .int .i64 (z 3), .int .i64 (z 4), .int .i64 (z 5), .int .i64 (z 6), .int .i64 (z 7)] 30 (0, 0)) :: (w1.heap.size, .cells #[.int .i64 (T : Int), .int .i64 sp, .slice A len cap, .slice (some ⟨ρ.rb, 0, none⟩) T ρ.rc, .slice (some ⟨ρ.sb, 0, none⟩) (Gf i).n ρ.sc, .slice (some ⟨ρ.fb, 0, none⟩) (Gf i).n ρ.fc] 49 (0, 0)) :: l))) := by
      rw [hwE]
      exact unhide H5
    clear hwE H5
    have y1 := hs5.heapAt (b := w3.heap.size + 1) (o := .cells #[.int .i64 oe, .bool oi, .int .i64 ov] 39 (0, 0)) (by simp)
    have y2 := hs5.heapAt (b := w3.heap.size) (o := .cells #[.int .i64 (T : Int), .int .i64 sp, .slice A len cap, .slice (some ⟨ρ'.rb, 0, none⟩) T ρ'.rc, .slice (some ⟨ρ'.sb, 0, none⟩) G'.n ρ'.sc, .slice (some ⟨ρ'.fb, 0, none⟩) G'.n ρ'.fc] 49 (0, 0)) (by simp)
    have y3 := hs5.heapAt (b := w2.heap.size) (o := .cells #[.int .i64 oe, .bool oi, .int .i64 ov] 39 (0, 0)) (by simp)
    have y4 := hs5.heapAt (b := w1.heap.size + 2) (o := .cells #[.int .i64 0, .int .i64 0, .slice none 0 0, .slice none 0 0, .slice none 0 0, .slice none 0 0] 49 (0, 0)) (by simp)
    have H5 := hide hs5
    have hlt := (Array.getElem?_eq_some_iff.1 y4).1
    have hlr : Hid (∀ q ∈ lr' ++ l, q ∈ ((w3.heap.size + 1, Obj.cells #[.int .i64 oe, .bool oi, .int .i64 ov] 39 (0, 0)) :: (w3.heap.size, .cells #[.int .i64 (T : Int), .int .i64 sp, .slice A len cap, .slice (some ⟨ρ'.rb, 0, none⟩) T ρ'.rc, .slice (some ⟨ρ'.sb, 0, none⟩) G'.n ρ'.sc, .slice (some ⟨ρ'.fb, 0, none⟩) G'.n ρ'.fc] 49 (0, 0)) :: (lr' ++ ((w2.heap.size, .cells #[.int .i64 oe, .bool oi, .int .i64 ov] 39 (0, 0)) :: (w1.heap.size + 2, .cells #[.int .i64 0, .int .i64 0, .slice none 0 0, .slice none 0 0, .slice none 0 0, .slice none 0 0] 49 (0, 0)) :: (w1.heap.size + 1, .cells #[.int .i64 (tn : Int), .int .i64 (z 0), .int .i64 (z 1), .int .i64 (z 2), .int .i64 (z 3), .int .i64 (z 4), .int .i64 (z 5), .int .i64 (z 6), .int .i64 (z 7)] 30 (0, 0)) :: (w1.heap.size, .cells #[.int .i64 (T : Int), .int .i64 sp, .slice A len cap, .slice (some ⟨ρ.rb, 0, none⟩) T ρ.rc, .slice (some ⟨ρ.sb, 0, none⟩) (Gf i).n ρ.sc, .slice (some ⟨ρ.fb, 0, none⟩) (Gf i).n ρ.fc] 49 (0, 0)) :: l)))) := hide (fun q hq => by
      rcases List.mem_append.1 hq with hq | hq
      · simp [hq]
      · simp [hq])
    clear hs5
    have l1 := (Array.getElem?_eq_some_iff.1 y1).1
    have l2 := (Array.getElem?_eq_some_iff.1 y2).1
    have l3 := (Array.getElem?_eq_some_iff.1 y3).1
    obtain ⟨p0, p1, p2⟩ := cells3 y1
    obtain ⟨r0, r1, r2, r3, r4, r5⟩ := cells6 y2
    obtain ⟨s0, s1, s2⟩ := cells3 y3
    have up0 := chd1 (n := w1.heap.size + 2) (by omega) p0
    have up1 := chd1 (n := w1.heap.size + 2) (by omega) p1
    have up2 := chd1 (n := w1.heap.size + 2) (by omega) p2
    have ur0 := chd1 (n := w1.heap.size + 2) (by omega) r0
    have ur1 := chd1 (n := w1.heap.size + 2) (by omega) r1
    have ur2 := chd1 (n := w1.heap.size + 2) (by omega) r2
    have ur3 := chd1 (n := w1.heap.size + 2) (by omega) r3
    have ur4 := chd1 (n := w1.heap.size + 2) (by omega) r4
    have ur5 := chd1 (n := w1.heap.size + 2) (by omega) r5
    have us0 := chd1 (n := w1.heap.size + 2) (by omega) s0
    have us1 := chd1 (n := w1.heap.size + 2) (by omega) s1
    have us2 := chd1 (n := w1.heap.size + 2) (by omega) s2
    refine wp_region_treeG_chd [0, 0, 0, 0, 0, 0, 1, 1, 1, 1, 2] 10 [(7, 6), (8, 7)] (fun c => c = w1.heap.size + 2) wE (by kernel_rfl) (by kernel_rfl) ((Chg.refl _ _).drew) ?_; simp only [kblk, List.map_cons, List.map_nil, Nat.reduceBNe, diesOps_f, diesOps_t, diesOps_nil, bne_self_eq_false]; (repeat (first | go_big_quiet_skip | (go_big_quiet_want; (first | ((fail); go_big_quiet_on; simp only [Act.put, List.setIfInBounds_toArray, List.set_cons_zero, List.set_cons_succ]) | (go_big_quiet_op; (first | go_big_quiet_on | go_big_quiet_call ((fail)))))))); refine wpQuiet_nil ?_; rw [show sideIdx [0, 0, 0, 0, 0, 0, 1, 1, 1, 1, 2] 10 = [6, 7, 8, 9] from by decide]; simp only [List.length_cons, List.length_nil, Nat.zero_add, Nat.reduceAdd]
    clear up0 us0 p0 s0 up1 us1 p1 s1 up2 us2 p2 s2 ur0 r0 ur1 r1 ur2 r2 ur3 r3 ur4 r4 ur5 r5
    have hc0 : Chg (fun c => c = w1.heap.size + 2) wE wE.drew := (Chg.refl _ _).drew
    have hq2 : wE.drew.heap[w1.heap.size + 2]? = some (.cells #[.int .i64 0, .int .i64 0, .slice none 0 0, .slice none 0 0, .slice none 0 0, .slice none 0 0] 49 (0, 0)) := y4
    clear y1 y2 y3 y4
    generalize wE.drew = v0 at hc0 hq2 ⊢
    obtain ⟨z0, z1, z2, z3, z4, z5⟩ := cells6 hq2
    have zf := frz hq2
    unfold treeGp; rw [show freeT [(7, 6), (8, 7)] [6, 7, 8, 9] = [6, 9] from by decide]; simp only [allL, List.getElem?_cons_zero, List.getElem?_cons_succ, List.erase_cons, beq_self_eq_true, if_true, Nat.reduceBEq, Bool.false_eq_true, if_false, and_true]
    refine ⟨?_, ?_⟩
    · refine ⟨fun _ => ?_, fun h => (Bool.false_ne_true (Eq.trans (Eq.symm h) (by rfl))).elim⟩
      unfold Oper.wpV; (try simp only [applyP, List.nil_append, List.cons_append, List.foldl_cons, List.foldl_nil, Act.put, List.setIfInBounds_toArray, List.set_cons_zero, List.set_cons_succ]); go_simp
      refine (num_any _ _).mono ?_
      rintro e v1 ⟨rfl, rfl⟩
      refine ⟨_, rfl, hc0, ?_⟩
      unfold treeGp; rw [show freeT [(7, 6), (8, 7)] [7, 8, 9] = [7, 9] from by decide]; simp only [allL, List.getElem?_cons_zero, List.getElem?_cons_succ, List.erase_cons, beq_self_eq_true, if_true, Nat.reduceBEq, Bool.false_eq_true, if_false, and_true]
      refine ⟨?_, ?_⟩
      · refine ⟨fun _ => ?_, fun h => (Bool.false_ne_true (Eq.trans (Eq.symm h) (by rfl))).elim⟩
        unfold Oper.wpV; (try simp only [applyP, List.nil_append, List.cons_append, List.foldl_cons, List.foldl_nil, Act.put, List.setIfInBounds_toArray, List.set_cons_zero, List.set_cons_succ]); go_simp
        unfold treeGp; rw [show freeT [(7, 6), (8, 7)] [8, 9] = [8, 9] from by decide]; simp only [allL, List.getElem?_cons_zero, List.getElem?_cons_succ, List.erase_cons, beq_self_eq_true, if_true, Nat.reduceBEq, Bool.false_eq_true, if_false, and_true]
        refine ⟨?_, ?_⟩
        · refine ⟨fun _ => ?_, fun h => (Bool.false_ne_true (Eq.trans (Eq.symm h) (by rfl))).elim⟩
          unfold Oper.wpV; (try simp only [applyP, List.nil_append, List.cons_append, List.foldl_cons, List.foldl_nil, Act.put, List.setIfInBounds_toArray, List.set_cons_zero, List.set_cons_succ]); go_simp
          unfold treeGp; rw [show freeT [(7, 6), (8, 7)] [9] = [9] from by decide]; simp only [allL, List.getElem?_cons_zero, List.getElem?_cons_succ, List.erase_cons, beq_self_eq_true, if_true, Nat.reduceBEq, Bool.false_eq_true, if_false, and_true]
          refine ⟨fun _ => ?_, fun h => (Bool.false_ne_true (Eq.trans (Eq.symm h) (by rfl))).elim⟩
          unfold Oper.wpV; (try simp only [applyP, List.nil_append, List.cons_append, List.foldl_cons, List.foldl_nil, Act.put, List.setIfInBounds_toArray, List.set_cons_zero, List.set_cons_succ]); go_simp
          (try simp only [World.size_drew])
          generalize hv4 : World.setCell _ _ _ = v4
          have hc4 : Chg (fun c => c = w1.heap.size + 2) wE v4 := by rw [← hv4]; exact ((((((hc0).set (.inr rfl) _).set (.inr rfl) _).set (.inr rfl) _).set (.inr rfl) _).set (.inr rfl) _).set (.inr rfl) _
          have hb4 : Hid (v4.heap[w1.heap.size + 2]? = some (.cells #[.int .i64 (T : Int), .int .i64 sp, .slice A len cap, .slice (some ⟨ρ'.rb, 0, none⟩) T ρ'.rc, .slice (some ⟨ρ'.sb, 0, none⟩) G'.n ρ'.sc, .slice (some ⟨ρ'.fb, 0, none⟩) G'.n ρ'.fc] 49 (0, 0))) := hide (by rw [← hv4]; exact (put6 hq2))
          refine ⟨hc4, ?_⟩
          clear hv4
          unfold treeGp; simp only [applyP, List.nil_append, List.cons_append, List.foldl_cons, List.foldl_nil, Act.put, List.setIfInBounds_toArray, List.set_cons_zero, List.set_cons_succ, List.drop_succ_cons, List.drop_zero]
          have hq := unhide hb4
          obtain ⟨q0, q1, q2, q3, q4, q5⟩ := cells6 hq
          go_wp2
          refine bodyPost_ret (v := .tuple #[.agg #[.int .i64 (T : Int), .int .i64 sp, .slice A len cap, .slice (some ⟨ρ'.rb, 0, none⟩) T ρ'.rc, .slice (some ⟨ρ'.sb, 0, none⟩) G'.n ρ'.sc, .slice (some ⟨ρ'.fb, 0, none⟩) G'.n ρ'.fc], .bool true]) (by simp only [results, Try.results18]; go_simp) rfl ?_
          have hgo := unhide HGO
          subst hgo
          have hfin := (unhide H5).chg1 (b := w1.heap.size + 2) (c := #[.int .i64 0, .int .i64 0, .slice none 0 0, .slice none 0 0, .slice none 0 0, .slice none 0 0]) (t := 49) hc4 (by simp) (by omega) nostr6 (fun q hq => ⟨unhide hlr q hq, unhide HNE q hq⟩)
          first | exact ⟨ρ', lr', rfl, unhide HR', unhide HRB, hfin⟩ | exact ⟨ρ', rfl, lr', unhide HR', (fun a b hq => unhide HRB (a, b) hq), hfin⟩
        · refine ⟨fun _ => ?_, fun h => (Bool.false_ne_true (Eq.trans (Eq.symm h) (by rfl))).elim⟩
          unfold Oper.wpV; (try simp only [applyP, List.nil_append, List.cons_append, List.foldl_cons, List.foldl_nil, Act.put, List.setIfInBounds_toArray, List.set_cons_zero, List.set_cons_succ]); go_simp
          (try simp only [World.size_drew])
          generalize hv5 : World.setCell _ _ _ = v5
          have hc5 : Chg (fun c => c = w1.heap.size + 2) wE v5 := by rw [← hv5]; exact ((((((hc0).set (.inr rfl) _).set (.inr rfl) _).set (.inr rfl) _).set (.inr rfl) _).set (.inr rfl) _).set (.inr rfl) _
          have hb5 : Hid (v5.heap[w1.heap.size + 2]? = some (.cells #[.int .i64 (T : Int), .int .i64 sp, .slice A len cap, .slice (some ⟨ρ'.rb, 0, none⟩) T ρ'.rc, .slice (some ⟨ρ'.sb, 0, none⟩) G'.n ρ'.sc, .slice (some ⟨ρ'.fb, 0, none⟩) G'.n ρ'.fc] 49 (0, 0))) := hide (by rw [← hv5]; exact (put6 hq2))
          refine ⟨hc5, ?_⟩
          clear hv5
          unfold treeGp; rw [show freeT [(7, 6), (8, 7)] [8] = [8] from by decide]; simp only [allL, List.getElem?_cons_zero, List.getElem?_cons_succ, List.erase_cons, beq_self_eq_true, if_true, Nat.reduceBEq, Bool.false_eq_true, if_false, and_true]
          refine ⟨fun _ => ?_, fun h => (Bool.false_ne_true (Eq.trans (Eq.symm h) (by rfl))).elim⟩
          unfold Oper.wpV; (try simp only [applyP, List.nil_append, List.cons_append, List.foldl_cons, List.foldl_nil, Act.put, List.setIfInBounds_toArray, List.set_cons_zero, List.set_cons_succ]); go_simp
          unfold treeGp; simp only [applyP, List.nil_append, List.cons_append, List.foldl_cons, List.foldl_nil, Act.put, List.setIfInBounds_toArray, List.set_cons_zero, List.set_cons_succ, List.drop_succ_cons, List.drop_zero]
          have hq := unhide hb5
          obtain ⟨q0, q1, q2, q3, q4, q5⟩ := cells6 hq
          go_wp2
          refine bodyPost_ret (v := .tuple #[.agg #[.int .i64 (T : Int), .int .i64 sp, .slice A len cap, .slice (some ⟨ρ'.rb, 0, none⟩) T ρ'.rc, .slice (some ⟨ρ'.sb, 0, none⟩) G'.n ρ'.sc, .slice (some ⟨ρ'.fb, 0, none⟩) G'.n ρ'.fc], .bool true]) (by simp only [results, Try.results18]; go_simp) rfl ?_
          have hgo := unhide HGO
          subst hgo
          have hfin := (unhide H5).chg1 (b := w1.heap.size + 2) (c := #[.int .i64 0, .int .i64 0, .slice none 0 0, .slice none 0 0, .slice none 0 0, .slice none 0 0]) (t := 49) hc5 (by simp) (by omega) nostr6 (fun q hq => ⟨unhide hlr q hq, unhide HNE q hq⟩)
          first | exact ⟨ρ', lr', rfl, unhide HR', unhide HRB, hfin⟩ | exact ⟨ρ', rfl, lr', unhide HR', (fun a b hq => unhide HRB (a, b) hq), hfin⟩
      · refine ⟨fun _ => ?_, fun h => (Bool.false_ne_true (Eq.trans (Eq.symm h) (by rfl))).elim⟩
        unfold Oper.wpV; (try simp only [applyP, List.nil_append, List.cons_append, List.foldl_cons, List.foldl_nil, Act.put, List.setIfInBounds_toArray, List.set_cons_zero, List.set_cons_succ]); go_simp
        (try simp only [World.size_drew])
        generalize hv7 : World.setCell _ _ _ = v7
        have hc7 : Chg (fun c => c = w1.heap.size + 2) wE v7 := by rw [← hv7]; exact ((((((hc0).set (.inr rfl) _).set (.inr rfl) _).set (.inr rfl) _).set (.inr rfl) _).set (.inr rfl) _).set (.inr rfl) _
        have hb7 : Hid (v7.heap[w1.heap.size + 2]? = some (.cells #[.int .i64 (T : Int), .int .i64 sp, .slice A len cap, .slice (some ⟨ρ'.rb, 0, none⟩) T ρ'.rc, .slice (some ⟨ρ'.sb, 0, none⟩) G'.n ρ'.sc, .slice (some ⟨ρ'.fb, 0, none⟩) G'.n ρ'.fc] 49 (0, 0))) := hide (by rw [← hv7]; exact (put6 hq2))
        refine ⟨hc7, ?_⟩
        clear hv7
        unfold treeGp; rw [show freeT [(7, 6), (8, 7)] [7, 8] = [7] from by decide]; simp only [allL, List.getElem?_cons_zero, List.getElem?_cons_succ, List.erase_cons, beq_self_eq_true, if_true, Nat.reduceBEq, Bool.false_eq_true, if_false, and_true]
        refine ⟨fun _ => ?_, fun h => (Bool.false_ne_true (Eq.trans (Eq.symm h) (by rfl))).elim⟩
        unfold Oper.wpV; (try simp only [applyP, List.nil_append, List.cons_append, List.foldl_cons, List.foldl_nil, Act.put, List.setIfInBounds_toArray, List.set_cons_zero, List.set_cons_succ]); go_simp
        unfold treeGp; rw [show freeT [(7, 6), (8, 7)] [8] = [8] from by decide]; simp only [allL, List.getElem?_cons_zero, List.getElem?_cons_succ, List.erase_cons, beq_self_eq_true, if_true, Nat.reduceBEq, Bool.false_eq_true, if_false, and_true]
        refine ⟨fun _ => ?_, fun h => (Bool.false_ne_true (Eq.trans (Eq.symm h) (by rfl))).elim⟩
        unfold Oper.wpV; (try simp only [applyP, List.nil_append, List.cons_append, List.foldl_cons, List.foldl_nil, Act.put, List.setIfInBounds_toArray, List.set_cons_zero, List.set_cons_succ]); go_simp
        unfold treeGp; simp only [applyP, List.nil_append, List.cons_append, List.foldl_cons, List.foldl_nil, Act.put, List.setIfInBounds_toArray, List.set_cons_zero, List.set_cons_succ, List.drop_succ_cons, List.drop_zero]
        have hq := unhide hb7
        obtain ⟨q0, q1, q2, q3, q4, q5⟩ := cells6 hq
        go_wp2
        refine bodyPost_ret (v := .tuple #[.agg #[.int .i64 (T : Int), .int .i64 sp, .slice A len cap, .slice (some ⟨ρ'.rb, 0, none⟩) T ρ'.rc, .slice (some ⟨ρ'.sb, 0, none⟩) G'.n ρ'.sc, .slice (some ⟨ρ'.fb, 0, none⟩) G'.n ρ'.fc], .bool true]) (by simp only [results, Try.results18]; go_simp) rfl ?_
        have hgo := unhide HGO
        subst hgo
        have hfin := (unhide H5).chg1 (b := w1.heap.size + 2) (c := #[.int .i64 0, .int .i64 0, .slice none 0 0, .slice none 0 0, .slice none 0 0, .slice none 0 0]) (t := 49) hc7 (by simp) (by omega) nostr6 (fun q hq => ⟨unhide hlr q hq, unhide HNE q hq⟩)
        first | exact ⟨ρ', lr', rfl, unhide HR', unhide HRB, hfin⟩ | exact ⟨ρ', rfl, lr', unhide HR', (fun a b hq => unhide HRB (a, b) hq), hfin⟩
    · refine ⟨fun _ => ?_, fun h => (Bool.false_ne_true (Eq.trans (Eq.symm h) (by rfl))).elim⟩
      unfold Oper.wpV; (try simp only [applyP, List.nil_append, List.cons_append, List.foldl_cons, List.foldl_nil, Act.put, List.setIfInBounds_toArray, List.set_cons_zero, List.set_cons_succ]); go_simp
      (try simp only [World.size_drew])
      generalize hv10 : World.setCell _ _ _ = v10
      have hc10 : Chg (fun c => c = w1.heap.size + 2) wE v10 := by rw [← hv10]; exact ((((((hc0).set (.inr rfl) _).set (.inr rfl) _).set (.inr rfl) _).set (.inr rfl) _).set (.inr rfl) _).set (.inr rfl) _
      have hb10 : Hid (v10.heap[w1.heap.size + 2]? = some (.cells #[.int .i64 (T : Int), .int .i64 sp, .slice A len cap, .slice (some ⟨ρ'.rb, 0, none⟩) T ρ'.rc, .slice (some ⟨ρ'.sb, 0, none⟩) G'.n ρ'.sc, .slice (some ⟨ρ'.fb, 0, none⟩) G'.n ρ'.fc] 49 (0, 0))) := hide (by rw [← hv10]; exact (put6 hq2))
      refine ⟨hc10, ?_⟩
      clear hv10
      unfold treeGp; rw [show freeT [(7, 6), (8, 7)] [6, 7, 8] = [6] from by decide]; simp only [allL, List.getElem?_cons_zero, List.getElem?_cons_succ, List.erase_cons, beq_self_eq_true, if_true, Nat.reduceBEq, Bool.false_eq_true, if_false, and_true]
      refine ⟨fun _ => ?_, fun h => (Bool.false_ne_true (Eq.trans (Eq.symm h) (by rfl))).elim⟩
      unfold Oper.wpV; (try simp only [applyP, List.nil_append, List.cons_append, List.foldl_cons, List.foldl_nil, Act.put, List.setIfInBounds_toArray, List.set_cons_zero, List.set_cons_succ]); go_simp
      refine (num_any _ _).mono ?_
      rintro e v11 ⟨rfl, rfl⟩
      refine ⟨_, rfl, hc10, ?_⟩
      unfold treeGp; rw [show freeT [(7, 6), (8, 7)] [7, 8] = [7] from by decide]; simp only [allL, List.getElem?_cons_zero, List.getElem?_cons_succ, List.erase_cons, beq_self_eq_true, if_true, Nat.reduceBEq, Bool.false_eq_true, if_false, and_true]
      refine ⟨fun _ => ?_, fun h => (Bool.false_ne_true (Eq.trans (Eq.symm h) (by rfl))).elim⟩
      unfold Oper.wpV; (try simp only [applyP, List.nil_append, List.cons_append, List.foldl_cons, List.foldl_nil, Act.put, List.setIfInBounds_toArray, List.set_cons_zero, List.set_cons_succ]); go_simp
      unfold treeGp; rw [show freeT [(7, 6), (8, 7)] [8] = [8] from by decide]; simp only [allL, List.getElem?_cons_zero, List.getElem?_cons_succ, List.erase_cons, beq_self_eq_true, if_true, Nat.reduceBEq, Bool.false_eq_true, if_false, and_true]
      refine ⟨fun _ => ?_, fun h => (Bool.false_ne_true (Eq.trans (Eq.symm h) (by rfl))).elim⟩
      unfold Oper.wpV; (try simp only [applyP, List.nil_append, List.cons_append, List.foldl_cons, List.foldl_nil, Act.put, List.setIfInBounds_toArray, List.set_cons_zero, List.set_cons_succ]); go_simp
      unfold treeGp; simp only [applyP, List.nil_append, List.cons_append, List.foldl_cons, List.foldl_nil, Act.put, List.setIfInBounds_toArray, List.set_cons_zero, List.set_cons_succ, List.drop_succ_cons, List.drop_zero]
      have hq := unhide hb10
      obtain ⟨q0, q1, q2, q3, q4, q5⟩ := cells6 hq
      go_wp2
      refine bodyPost_ret (v := .tuple #[.agg #[.int .i64 (T : Int), .int .i64 sp, .slice A len cap, .slice (some ⟨ρ'.rb, 0, none⟩) T ρ'.rc, .slice (some ⟨ρ'.sb, 0, none⟩) G'.n ρ'.sc, .slice (some ⟨ρ'.fb, 0, none⟩) G'.n ρ'.fc], .bool true]) (by simp only [results, Try.results18]; go_simp) rfl ?_
      have hgo := unhide HGO
      subst hgo
      have hfin := (unhide H5).chg1 (b := w1.heap.size + 2) (c := #[.int .i64 0, .int .i64 0, .slice none 0 0, .slice none 0 0, .slice none 0 0, .slice none 0 0]) (t := 49) hc10 (by simp) (by omega) nostr6 (fun q hq => ⟨unhide hlr q hq, unhide HNE q hq⟩)
      first | exact ⟨ρ', lr', rfl, unhide HR', unhide HRB, hfin⟩ | exact ⟨ρ', rfl, lr', unhide HR', (fun a b hq => unhide HRB (a, b) hq), hfin⟩
  · obtain ⟨e1, e2, e3⟩ := go_bad (len := len) (S := S) (Gf i) t ht z
    unfold ansV at e1
    injection e1 with e1
    injection e1 with e1
    injection e1 with ea e1
    injection e1 with eb e1
    injection e1 with ec _
    injection ea with _ ea
    injection eb with eb
    injection ec with _ ec
    rw [ea, eb, ec] at hs3 ⊢
    rw [e3]
    have HE2 := hide e2
    clear e2 e3 ea eb ec
    have HHS := hide hs3
    clear hs3
    go_upto_region 2 with fail
    refine wp_gen ?_
    intro wD hwD
    have hs3 : St T sp len S w wD m gf (updG Gf i ((Gf i).go len S T t z)) ((w2.heap.size, .cells #[.int .i64 0, .bool false, .int .i64 0] 39 (0, 0)) :: (w1.heap.size + 2, .cells #[.int .i64 0, .int .i64 0, .slice none 0 0, .slice none 0 0, .slice none 0 0, .slice none 0 0] 49 (0, 0)) :: (w1.heap.size + 1, .cells #[.int .i64 t, .int .i64 (z 0), .int .i64 (z 1), .int .i64 (z 2), .int .i64 (z 3), .int .i64 (z 4), .int .i64 (z 5), .int .i64 (z 6), .int .i64 (z 7)] 30 (0, 0)) :: (w1.heap.size, .cells #[.int .i64 (T : Int), .int .i64 sp, .slice A len cap, .slice (some ⟨ρ.rb, 0, none⟩) T ρ.rc, .slice (some ⟨ρ.sb, 0, none⟩) (Gf i).n ρ.sc, .slice (some ⟨ρ.fb, 0, none⟩) (Gf i).n ρ.fc] 49 (0, 0)) :: l) := by
      rw [hwD]
      exact unhide HHS
    clear hwD HHS
    have x1 := hs3.heapAt (b := w1.heap.size + 1) (o := .cells #[.int .i64 t, .int .i64 (z 0), .int .i64 (z 1), .int .i64 (z 2), .int .i64 (z 3), .int .i64 (z 4), .int .i64 (z 5), .int .i64 (z 6), .int .i64 (z 7)] 30 (0, 0)) (by simp)
    have y2 := hs3.heapAt (b := w1.heap.size) (o := .cells #[.int .i64 (T : Int), .int .i64 sp, .slice A len cap, .slice (some ⟨ρ.rb, 0, none⟩) T ρ.rc, .slice (some ⟨ρ.sb, 0, none⟩) (Gf i).n ρ.sc, .slice (some ⟨ρ.fb, 0, none⟩) (Gf i).n ρ.fc] 49 (0, 0)) (by simp)
    have y3 := hs3.heapAt (b := w2.heap.size) (o := .cells #[.int .i64 0, .bool false, .int .i64 0] 39 (0, 0)) (by simp)
    have y4 := hs3.heapAt (b := w1.heap.size + 2) (o := .cells #[.int .i64 0, .int .i64 0, .slice none 0 0, .slice none 0 0, .slice none 0 0, .slice none 0 0] 49 (0, 0)) (by simp)
    have hlt := (Array.getElem?_eq_some_iff.1 y4).1
    have H5 := hide hs3
    have HNE : Hid (∀ q ∈ lr ++ l, q.1 ≠ w1.heap.size + 2) := hide (fun q hq => by
      have hl9 : ∀ q ∈ l, q.1 < w1.heap.size := fun q hq => (unhide HH).lt hq
      rcases List.mem_append.1 hq with hq | hq
      · have := hl9 q (unhide HL q hq); omega
      · have := hl9 q hq; omega)
    have hlr : Hid (∀ q ∈ lr ++ l, q ∈ ((w2.heap.size, Obj.cells #[.int .i64 0, .bool false, .int .i64 0] 39 (0, 0)) :: (w1.heap.size + 2, .cells #[.int .i64 0, .int .i64 0, .slice none 0 0, .slice none 0 0, .slice none 0 0, .slice none 0 0] 49 (0, 0)) :: (w1.heap.size + 1, .cells #[.int .i64 t, .int .i64 (z 0), .int .i64 (z 1), .int .i64 (z 2), .int .i64 (z 3), .int .i64 (z 4), .int .i64 (z 5), .int .i64 (z 6), .int .i64 (z 7)] 30 (0, 0)) :: (w1.heap.size, .cells #[.int .i64 (T : Int), .int .i64 sp, .slice A len cap, .slice (some ⟨ρ.rb, 0, none⟩) T ρ.rc, .slice (some ⟨ρ.sb, 0, none⟩) (Gf i).n ρ.sc, .slice (some ⟨ρ.fb, 0, none⟩) (Gf i).n ρ.fc] 49 (0, 0)) :: l)) := hide (fun q hq => by
      rcases List.mem_append.1 hq with hq | hq
      · simp [unhide HL q hq]
      · simp [hq])
    clear hs3
    have l2 := (Array.getElem?_eq_some_iff.1 y2).1
    have l3 := (Array.getElem?_eq_some_iff.1 y3).1
    have o0 : wD.cell? ⟨w1.heap.size + 1, 0, none⟩ = some (.int .i64 t) := Lib.cell_of_heap x1 0
    obtain ⟨r0, r1, r2, r3, r4, r5⟩ := cells6 y2
    obtain ⟨s0, s1, s2⟩ := cells3 y3
    clear x1
    have hs : t < 0 ∨ (¬ t < 0 ∧ (T : Int) ≤ t) := by omega
    have HFIN : Hid ((Gf i).go len S T t z = Gf i) := HE2
    rcases hs with t0 | ⟨t0, t1⟩
    all_goals
      go_upto_region 3 with fail
      have ur0 := chd1 (n := w1.heap.size + 2) (by omega) r0
      have ur1 := chd1 (n := w1.heap.size + 2) (by omega) r1
      have ur2 := chd1 (n := w1.heap.size + 2) (by omega) r2
      have ur3 := chd1 (n := w1.heap.size + 2) (by omega) r3
      have ur4 := chd1 (n := w1.heap.size + 2) (by omega) r4
      have ur5 := chd1 (n := w1.heap.size + 2) (by omega) r5
      have us0 := chd1 (n := w1.heap.size + 2) (by omega) s0
      have us1 := chd1 (n := w1.heap.size + 2) (by omega) s1
      have us2 := chd1 (n := w1.heap.size + 2) (by omega) s2
      refine wp_region_treeG_chd [0, 0, 0, 0, 0, 0, 1, 1, 1, 1, 2] 10 [(7, 6), (8, 7)] (fun c => c = w1.heap.size + 2) wD (by kernel_rfl) (by kernel_rfl) ((Chg.refl _ _).drew) ?_; simp only [kblk, List.map_cons, List.map_nil, Nat.reduceBNe, diesOps_f, diesOps_t, diesOps_nil, bne_self_eq_false]; (repeat (first | go_big_quiet_skip | (go_big_quiet_want; (first | ((fail); go_big_quiet_on; simp only [Act.put, List.setIfInBounds_toArray, List.set_cons_zero, List.set_cons_succ]) | (go_big_quiet_op; (first | go_big_quiet_on | go_big_quiet_call ((fail)))))))); refine wpQuiet_nil ?_; rw [show sideIdx [0, 0, 0, 0, 0, 0, 1, 1, 1, 1, 2] 10 = [6, 7, 8, 9] from by decide]; simp only [List.length_cons, List.length_nil, Nat.zero_add, Nat.reduceAdd]
      clear us0 s0 us1 s1 us2 s2 ur0 r0 ur1 r1 ur2 r2 ur3 r3 ur4 r4 ur5 r5
      have hc0 : Chg (fun c => c = w1.heap.size + 2) wD wD.drew := (Chg.refl _ _).drew
      have hq2 : wD.drew.heap[w1.heap.size + 2]? = some (.cells #[.int .i64 0, .int .i64 0, .slice none 0 0, .slice none 0 0, .slice none 0 0, .slice none 0 0] 49 (0, 0)) := y4
      clear y2 y3 y4
      generalize wD.drew = v0 at hc0 hq2 ⊢
      obtain ⟨z0, z1, z2, z3, z4, z5⟩ := cells6 hq2
      have zf := frz hq2
      unfold treeGp; rw [show freeT [(7, 6), (8, 7)] [6, 7, 8, 9] = [6, 9] from by decide]; simp only [allL, List.getElem?_cons_zero, List.getElem?_cons_succ, List.erase_cons, beq_self_eq_true, if_true, Nat.reduceBEq, Bool.false_eq_true, if_false, and_true]
      refine ⟨?_, ?_⟩
      · refine ⟨fun _ => ?_, fun h => (Bool.false_ne_true (Eq.trans (Eq.symm h) (by rfl))).elim⟩
        unfold Oper.wpV; (try simp only [applyP, List.nil_append, List.cons_append, List.foldl_cons, List.foldl_nil, Act.put, List.setIfInBounds_toArray, List.set_cons_zero, List.set_cons_succ]); go_simp
        refine (num_any _ _).mono ?_
        rintro e v1 ⟨rfl, rfl⟩
        refine ⟨_, rfl, hc0, ?_⟩
        unfold treeGp; rw [show freeT [(7, 6), (8, 7)] [7, 8, 9] = [7, 9] from by decide]; simp only [allL, List.getElem?_cons_zero, List.getElem?_cons_succ, List.erase_cons, beq_self_eq_true, if_true, Nat.reduceBEq, Bool.false_eq_true, if_false, and_true]
        refine ⟨?_, ?_⟩
        · refine ⟨fun _ => ?_, fun h => (Bool.false_ne_true (Eq.trans (Eq.symm h) (by rfl))).elim⟩
          unfold Oper.wpV; (try simp only [applyP, List.nil_append, List.cons_append, List.foldl_cons, List.foldl_nil, Act.put, List.setIfInBounds_toArray, List.set_cons_zero, List.set_cons_succ]); go_simp
          unfold treeGp; rw [show freeT [(7, 6), (8, 7)] [8, 9] = [8, 9] from by decide]; simp only [allL, List.getElem?_cons_zero, List.getElem?_cons_succ, List.erase_cons, beq_self_eq_true, if_true, Nat.reduceBEq, Bool.false_eq_true, if_false, and_true]
          refine ⟨?_, ?_⟩
          · refine ⟨fun _ => ?_, fun h => (Bool.false_ne_true (Eq.trans (Eq.symm h) (by rfl))).elim⟩
            unfold Oper.wpV; (try simp only [applyP, List.nil_append, List.cons_append, List.foldl_cons, List.foldl_nil, Act.put, List.setIfInBounds_toArray, List.set_cons_zero, List.set_cons_succ]); go_simp
            unfold treeGp; rw [show freeT [(7, 6), (8, 7)] [9] = [9] from by decide]; simp only [allL, List.getElem?_cons_zero, List.getElem?_cons_succ, List.erase_cons, beq_self_eq_true, if_true, Nat.reduceBEq, Bool.false_eq_true, if_false, and_true]
            refine ⟨fun _ => ?_, fun h => (Bool.false_ne_true (Eq.trans (Eq.symm h) (by rfl))).elim⟩
            unfold Oper.wpV; (try simp only [applyP, List.nil_append, List.cons_append, List.foldl_cons, List.foldl_nil, Act.put, List.setIfInBounds_toArray, List.set_cons_zero, List.set_cons_succ]); go_simp
            (try simp only [World.size_drew])
            generalize hv4 : World.setCell _ _ _ = v4
            have hc4 : Chg (fun c => c = w1.heap.size + 2) wD v4 := by rw [← hv4]; exact ((((((hc0).set (.inr rfl) _).set (.inr rfl) _).set (.inr rfl) _).set (.inr rfl) _).set (.inr rfl) _).set (.inr rfl) _
            have hb4 : Hid (v4.heap[w1.heap.size + 2]? = some (.cells #[.int .i64 (T : Int), .int .i64 sp, .slice A len cap, .slice (some ⟨ρ.rb, 0, none⟩) T ρ.rc, .slice (some ⟨ρ.sb, 0, none⟩) (Gf i).n ρ.sc, .slice (some ⟨ρ.fb, 0, none⟩) (Gf i).n ρ.fc] 49 (0, 0))) := hide (by rw [← hv4]; exact (put6 hq2))
            refine ⟨hc4, ?_⟩
            clear hv4
            unfold treeGp; simp only [applyP, List.nil_append, List.cons_append, List.foldl_cons, List.foldl_nil, Act.put, List.setIfInBounds_toArray, List.set_cons_zero, List.set_cons_succ, List.drop_succ_cons, List.drop_zero]
            have hq := unhide hb4
            obtain ⟨q0, q1, q2, q3, q4, q5⟩ := cells6 hq
            go_wp2
            refine bodyPost_ret (v := .tuple #[.agg #[.int .i64 (T : Int), .int .i64 sp, .slice A len cap, .slice (some ⟨ρ.rb, 0, none⟩) T ρ.rc, .slice (some ⟨ρ.sb, 0, none⟩) (Gf i).n ρ.sc, .slice (some ⟨ρ.fb, 0, none⟩) (Gf i).n ρ.fc], .bool true]) (by simp only [results, Try.results18]; go_simp) rfl ?_
            have hfin := (unhide H5).chg1 (b := w1.heap.size + 2) (c := #[.int .i64 0, .int .i64 0, .slice none 0 0, .slice none 0 0, .slice none 0 0, .slice none 0 0]) (t := 49) hc4 (by simp) (by omega) nostr6 (fun q hq => ⟨unhide hlr q hq, unhide HNE q hq⟩)
            first | exact ⟨ρ, lr, by rw [unhide HE2], by rw [unhide HE2]; exact unhide HR, (fun q hq => .inl ⟨q.2, hq⟩), hfin⟩ | exact ⟨ρ, by rw [unhide HE2], lr, by rw [unhide HE2]; exact unhide HR, (fun a b hq => .inl ⟨b, hq⟩), hfin⟩
          · refine ⟨fun _ => ?_, fun h => (Bool.false_ne_true (Eq.trans (Eq.symm h) (by rfl))).elim⟩
            unfold Oper.wpV; (try simp only [applyP, List.nil_append, List.cons_append, List.foldl_cons, List.foldl_nil, Act.put, List.setIfInBounds_toArray, List.set_cons_zero, List.set_cons_succ]); go_simp
            (try simp only [World.size_drew])
            generalize hv5 : World.setCell _ _ _ = v5
            have hc5 : Chg (fun c => c = w1.heap.size + 2) wD v5 := by rw [← hv5]; exact ((((((hc0).set (.inr rfl) _).set (.inr rfl) _).set (.inr rfl) _).set (.inr rfl) _).set (.inr rfl) _).set (.inr rfl) _
            have hb5 : Hid (v5.heap[w1.heap.size + 2]? = some (.cells #[.int .i64 (T : Int), .int .i64 sp, .slice A len cap, .slice (some ⟨ρ.rb, 0, none⟩) T ρ.rc, .slice (some ⟨ρ.sb, 0, none⟩) (Gf i).n ρ.sc, .slice (some ⟨ρ.fb, 0, none⟩) (Gf i).n ρ.fc] 49 (0, 0))) := hide (by rw [← hv5]; exact (put6 hq2))
            refine ⟨hc5, ?_⟩
            clear hv5
            unfold treeGp; rw [show freeT [(7, 6), (8, 7)] [8] = [8] from by decide]; simp only [allL, List.getElem?_cons_zero, List.getElem?_cons_succ, List.erase_cons, beq_self_eq_true, if_true, Nat.reduceBEq, Bool.false_eq_true, if_false, and_true]
            refine ⟨fun _ => ?_, fun h => (Bool.false_ne_true (Eq.trans (Eq.symm h) (by rfl))).elim⟩
            unfold Oper.wpV; (try simp only [applyP, List.nil_append, List.cons_append, List.foldl_cons, List.foldl_nil, Act.put, List.setIfInBounds_toArray, List.set_cons_zero, List.set_cons_succ]); go_simp
            unfold treeGp; simp only [applyP, List.nil_append, List.cons_append, List.foldl_cons, List.foldl_nil, Act.put, List.setIfInBounds_toArray, List.set_cons_zero, List.set_cons_succ, List.drop_succ_cons, List.drop_zero]
            have hq := unhide hb5
            obtain ⟨q0, q1, q2, q3, q4, q5⟩ := cells6 hq
            go_wp2
            refine bodyPost_ret (v := .tuple #[.agg #[.int .i64 (T : Int), .int .i64 sp, .slice A len cap, .slice (some ⟨ρ.rb, 0, none⟩) T ρ.rc, .slice (some ⟨ρ.sb, 0, none⟩) (Gf i).n ρ.sc, .slice (some ⟨ρ.fb, 0, none⟩) (Gf i).n ρ.fc], .bool true]) (by simp only [results, Try.results18]; go_simp) rfl ?_
            have hfin := (unhide H5).chg1 (b := w1.heap.size + 2) (c := #[.int .i64 0, .int .i64 0, .slice none 0 0, .slice none 0 0, .slice none 0 0, .slice none 0 0]) (t := 49) hc5 (by simp) (by omega) nostr6 (fun q hq => ⟨unhide hlr q hq, unhide HNE q hq⟩)
            first | exact ⟨ρ, lr, by rw [unhide HE2], by rw [unhide HE2]; exact unhide HR, (fun q hq => .inl ⟨q.2, hq⟩), hfin⟩ | exact ⟨ρ, by rw [unhide HE2], lr, by rw [unhide HE2]; exact unhide HR, (fun a b hq => .inl ⟨b, hq⟩), hfin⟩
        · refine ⟨fun _ => ?_, fun h => (Bool.false_ne_true (Eq.trans (Eq.symm h) (by rfl))).elim⟩
          unfold Oper.wpV; (try simp only [applyP, List.nil_append, List.cons_append, List.foldl_cons, List.foldl_nil, Act.put, List.setIfInBounds_toArray, List.set_cons_zero, List.set_cons_succ]); go_simp
          (try simp only [World.size_drew])
          generalize hv7 : World.setCell _ _ _ = v7
          have hc7 : Chg (fun c => c = w1.heap.size + 2) wD v7 := by rw [← hv7]; exact ((((((hc0).set (.inr rfl) _).set (.inr rfl) _).set (.inr rfl) _).set (.inr rfl) _).set (.inr rfl) _).set (.inr rfl) _
          have hb7 : Hid (v7.heap[w1.heap.size + 2]? = some (.cells #[.int .i64 (T : Int), .int .i64 sp, .slice A len cap, .slice (some ⟨ρ.rb, 0, none⟩) T ρ.rc, .slice (some ⟨ρ.sb, 0, none⟩) (Gf i).n ρ.sc, .slice (some ⟨ρ.fb, 0, none⟩) (Gf i).n ρ.fc] 49 (0, 0))) := hide (by rw [← hv7]; exact (put6 hq2))
          refine ⟨hc7, ?_⟩
          clear hv7
          unfold treeGp; rw [show freeT [(7, 6), (8, 7)] [7, 8] = [7] from by decide]; simp only [allL, List.getElem?_cons_zero, List.getElem?_cons_succ, List.erase_cons, beq_self_eq_true, if_true, Nat.reduceBEq, Bool.false_eq_true, if_false, and_true]
          refine ⟨fun _ => ?_, fun h => (Bool.false_ne_true (Eq.trans (Eq.symm h) (by rfl))).elim⟩
          unfold Oper.wpV; (try simp only [applyP, List.nil_append, List.cons_append, List.foldl_cons, List.foldl_nil, Act.put, List.setIfInBounds_toArray, List.set_cons_zero, List.set_cons_succ]); go_simp
          unfold treeGp; rw [show freeT [(7, 6), (8, 7)] [8] = [8] from by decide]; simp only [allL, List.getElem?_cons_zero, List.getElem?_cons_succ, List.erase_cons, beq_self_eq_true, if_true, Nat.reduceBEq, Bool.false_eq_true, if_false, and_true]
          refine ⟨fun _ => ?_, fun h => (Bool.false_ne_true (Eq.trans (Eq.symm h) (by rfl))).elim⟩
          unfold Oper.wpV; (try simp only [applyP, List.nil_append, List.cons_append, List.foldl_cons, List.foldl_nil, Act.put, List.setIfInBounds_toArray, List.set_cons_zero, List.set_cons_succ]); go_simp
          unfold treeGp; simp only [applyP, List.nil_append, List.cons_append, List.foldl_cons, List.foldl_nil, Act.put, List.setIfInBounds_toArray, List.set_cons_zero, List.set_cons_succ, List.drop_succ_cons, List.drop_zero]
          have hq := unhide hb7
          obtain ⟨q0, q1, q2, q3, q4, q5⟩ := cells6 hq
          go_wp2
          refine bodyPost_ret (v := .tuple #[.agg #[.int .i64 (T : Int), .int .i64 sp, .slice A len cap, .slice (some ⟨ρ.rb, 0, none⟩) T ρ.rc, .slice (some ⟨ρ.sb, 0, none⟩) (Gf i).n ρ.sc, .slice (some ⟨ρ.fb, 0, none⟩) (Gf i).n ρ.fc], .bool true]) (by simp only [results, Try.results18]; go_simp) rfl ?_
          have hfin := (unhide H5).chg1 (b := w1.heap.size + 2) (c := #[.int .i64 0, .int .i64 0, .slice none 0 0, .slice none 0 0, .slice none 0 0, .slice none 0 0]) (t := 49) hc7 (by simp) (by omega) nostr6 (fun q hq => ⟨unhide hlr q hq, unhide HNE q hq⟩)
          first | exact ⟨ρ, lr, by rw [unhide HE2], by rw [unhide HE2]; exact unhide HR, (fun q hq => .inl ⟨q.2, hq⟩), hfin⟩ | exact ⟨ρ, by rw [unhide HE2], lr, by rw [unhide HE2]; exact unhide HR, (fun a b hq => .inl ⟨b, hq⟩), hfin⟩
      · refine ⟨fun _ => ?_, fun h => (Bool.false_ne_true (Eq.trans (Eq.symm h) (by rfl))).elim⟩
        unfold Oper.wpV; (try simp only [applyP, List.nil_append, List.cons_append, List.foldl_cons, List.foldl_nil, Act.put, List.setIfInBounds_toArray, List.set_cons_zero, List.set_cons_succ]); go_simp
        (try simp only [World.size_drew])
        generalize hv10 : World.setCell _ _ _ = v10
        have hc10 : Chg (fun c => c = w1.heap.size + 2) wD v10 := by rw [← hv10]; exact ((((((hc0).set (.inr rfl) _).set (.inr rfl) _).set (.inr rfl) _).set (.inr rfl) _).set (.inr rfl) _).set (.inr rfl) _
        have hb10 : Hid (v10.heap[w1.heap.size + 2]? = some (.cells #[.int .i64 (T : Int), .int .i64 sp, .slice A len cap, .slice (some ⟨ρ.rb, 0, none⟩) T ρ.rc, .slice (some ⟨ρ.sb, 0, none⟩) (Gf i).n ρ.sc, .slice (some ⟨ρ.fb, 0, none⟩) (Gf i).n ρ.fc] 49 (0, 0))) := hide (by rw [← hv10]; exact (put6 hq2))
        refine ⟨hc10, ?_⟩
        clear hv10
        unfold treeGp; rw [show freeT [(7, 6), (8, 7)] [6, 7, 8] = [6] from by decide]; simp only [allL, List.getElem?_cons_zero, List.getElem?_cons_succ, List.erase_cons, beq_self_eq_true, if_true, Nat.reduceBEq, Bool.false_eq_true, if_false, and_true]
        refine ⟨fun _ => ?_, fun h => (Bool.false_ne_true (Eq.trans (Eq.symm h) (by rfl))).elim⟩
        unfold Oper.wpV; (try simp only [applyP, List.nil_append, List.cons_append, List.foldl_cons, List.foldl_nil, Act.put, List.setIfInBounds_toArray, List.set_cons_zero, List.set_cons_succ]); go_simp
        refine (num_any _ _).mono ?_
        rintro e v11 ⟨rfl, rfl⟩
        refine ⟨_, rfl, hc10, ?_⟩
        unfold treeGp; rw [show freeT [(7, 6), (8, 7)] [7, 8] = [7] from by decide]; simp only [allL, List.getElem?_cons_zero, List.getElem?_cons_succ, List.erase_cons, beq_self_eq_true, if_true, Nat.reduceBEq, Bool.false_eq_true, if_false, and_true]
        refine ⟨fun _ => ?_, fun h => (Bool.false_ne_true (Eq.trans (Eq.symm h) (by rfl))).elim⟩
        unfold Oper.wpV; (try simp only [applyP, List.nil_append, List.cons_append, List.foldl_cons, List.foldl_nil, Act.put, List.setIfInBounds_toArray, List.set_cons_zero, List.set_cons_succ]); go_simp
        unfold treeGp; rw [show freeT [(7, 6), (8, 7)] [8] = [8] from by decide]; simp only [allL, List.getElem?_cons_zero, List.getElem?_cons_succ, List.erase_cons, beq_self_eq_true, if_true, Nat.reduceBEq, Bool.false_eq_true, if_false, and_true]
        refine ⟨fun _ => ?_, fun h => (Bool.false_ne_true (Eq.trans (Eq.symm h) (by rfl))).elim⟩
        unfold Oper.wpV; (try simp only [applyP, List.nil_append, List.cons_append, List.foldl_cons, List.foldl_nil, Act.put, List.setIfInBounds_toArray, List.set_cons_zero, List.set_cons_succ]); go_simp
        unfold treeGp; simp only [applyP, List.nil_append, List.cons_append, List.foldl_cons, List.foldl_nil, Act.put, List.setIfInBounds_toArray, List.set_cons_zero, List.set_cons_succ, List.drop_succ_cons, List.drop_zero]
        have hq := unhide hb10
        obtain ⟨q0, q1, q2, q3, q4, q5⟩ := cells6 hq
        go_wp2
        refine bodyPost_ret (v := .tuple #[.agg #[.int .i64 (T : Int), .int .i64 sp, .slice A len cap, .slice (some ⟨ρ.rb, 0, none⟩) T ρ.rc, .slice (some ⟨ρ.sb, 0, none⟩) (Gf i).n ρ.sc, .slice (some ⟨ρ.fb, 0, none⟩) (Gf i).n ρ.fc], .bool true]) (by simp only [results, Try.results18]; go_simp) rfl ?_
        have hfin := (unhide H5).chg1 (b := w1.heap.size + 2) (c := #[.int .i64 0, .int .i64 0, .slice none 0 0, .slice none 0 0, .slice none 0 0, .slice none 0 0]) (t := 49) hc10 (by simp) (by omega) nostr6 (fun q hq => ⟨unhide hlr q hq, unhide HNE q hq⟩)
        first | exact ⟨ρ, lr, by rw [unhide HE2], by rw [unhide HE2]; exact unhide HR, (fun q hq => .inl ⟨q.2, hq⟩), hfin⟩ | exact ⟨ρ, by rw [unhide HE2], lr, by rw [unhide HE2]; exact unhide HR, (fun a b hq => .inl ⟨b, hq⟩), hfin⟩
end
end Go.Proofs.Ytbkaopeajjechaa

namespace Go.Proofs.Ytbkaopeajjechaa
set_option linter.unusedVariables false
set_option linter.unusedSimpArgs false
open Go.RowKit Go.Maps

/-- The base is below, the boxes are kept. -/
def IsKpt (w0 : World) (l : List (Nat × Obj)) (U : World) : Prop := Below w0.heap.size w0 U ∧ ∀ q ∈ l, U.heap[q.1]? = some q.2
structure Kpt (w0 : World) (l : List (Nat × Obj)) where
  val : World
  ok : IsKpt w0 l val
theorem Kpt.iff {w0 U : World} {l : List (Nat × Obj)} : (∃ s : Kpt w0 l, U = s.val) ↔ IsKpt w0 l U := ⟨fun ⟨s, hs⟩ => hs ▸ s.ok, fun h => ⟨⟨U, h⟩, rfl⟩⟩
theorem IsKpt.below {w0 U V : World} {l : List (Nat × Obj)} (h : IsKpt w0 l U) (hb : Below U.heap.size U V) : IsKpt w0 l V :=
  ⟨h.1.trans (hb.mono h.1.size), fun q hq => (hb.block _ (Array.getElem?_eq_some_iff.1 (h.2 q hq)).1).trans (h.2 q hq)⟩
theorem Kpt.at {w0 : World} {l : List (Nat × Obj)} {b : Nat} {c : Array Value} {t : TypeId} (hm : (b, Obj.cells c t (0, 0)) ∈ l) (j : Nat) {v : Value} (hv : c[j]? = some v) (s : Kpt w0 l) : s.val.cell? ⟨b, j, none⟩ = some v :=
  (Lib.cell_of_heap (s.ok.2 _ hm) j).trans hv
theorem Kpt.cell {w0 : World} {l : List (Nat × Obj)} {b o : Nat} {v : Value} (h : w0.cell? ⟨b, o, none⟩ = some v) (s : Kpt w0 l) : s.val.cell? ⟨b, o, none⟩ = some v := (s.ok.1.cell (p := ⟨b, o, none⟩) (block_lt h)).trans h

theorem wp_region_kpt (κ : List Nat) (k : Nat) (E : List (Nat × Nat)) {P : Program} (w0 : World) (l : List (Nat × Obj)) {id : Nat} {Q : Exit → Act → World → Prop} {a : Act} {w : World} {L : List Oper} (hm : P.follows .mixedOrders = true) (hB : treeGB L κ k E = true) (hC : IsKpt w0 l w.drew)
    (h : wpQuiet P (diesOps L (kblk κ)).toArray (fun U => ∃ s : Kpt w0 l, U = s.val) (fun a' => treeGp P (fun U => IsKpt w0 l U) a' E L (fun ps U => wpList P L.toArray Q (L.drop k) (applyP ps a') U) (sideIdx κ k).length (sideIdx κ k) [] w.drew) (diesOps L (kblk κ)) a) : (Code.region id L.toArray true).wp P Q a w := by
  refine wp_region_treeG (C := fun U => ∃ s : Kpt w0 l, U = s.val) κ k E hm hB (Kpt.iff.2 hC) ?_
  have e : (fun U => ∃ s : Kpt w0 l, U = s.val) = (fun U => IsKpt w0 l U) := funext fun U => propext Kpt.iff
  rw [e] at h ⊢
  exact h

section
variable {T : Nat} {sp : Int} {len cap : Nat} {S : Nat → ByteArray} {w w1 w2 W : World} {m : Nat} {gf : Nat → Nat} {Gf : Nat → Gr} {l : List (Nat × Obj)} {A : Option Addr}

theorem St.kpt (h : St T sp len S w w1 m gf Gf l) : IsKpt w l w1 := ⟨h.b, fun _ hq => h.heap hq⟩
theorem St.kpts (h : St T sp len S w w1 m gf Gf l) {l2 : List (Nat × Obj)} (hl : ∀ q, q ∈ l2 → q ∈ l) : IsKpt w l2 w1 := (h.more hl).kpt

/-- A box that holds no string is laid anew. -/
theorem St.put {b : Nat} {c c' : Array Value} {t t' : TypeId} {l' : List (Nat × Obj)} (h : St T sp len S w w1 m gf Gf l) (hC : Chg (fun j => j = b) w1 W) (hm : (b, .cells c t (0, 0)) ∈ l) (hb : w.heap.size ≤ b) (hc : ∀ (k : Nat) (s : ByteArray), c[k]? ≠ some (.string s)) (hW : W.heap[b]? = some (.cells c' t' (0, 0))) (hl : ∀ q ∈ l', q ∈ l ∧ q.1 ≠ b) :
    St T sp len S w W m gf Gf ((b, .cells c' t' (0, 0)) :: l') := by
  obtain ⟨Lf, h⟩ := h
  have hx := h.outs _ hm
  refine ⟨Lf, fun i hi => (h.g i hi).keep hC (fun b' hb' e => hx.2 i hi (e ▸ hb')) (fun a ha e => ?_), h.adr, h.dis, h.sh, Chg.then_below h.b hC (fun j e => by subst e; exact hb) h.b.size, h.base, fun q hq => ?_⟩
  · have hl0 : 0 < len := by have := (h.g i hi).ok.tab.1; omega
    obtain ⟨g, o, e1, -, hcs⟩ := (h.g i hi).shp hl0
    rw [ha] at e1
    cases e1
    have e : g = b := e
    subst e
    have := hcs 0 hl0
    rw [Lib.cell_of_heap hx.1] at this
    exact hc _ _ this
  · rcases List.mem_cons.1 hq with rfl | hq
    · exact ⟨hW, hx.2⟩
    · obtain ⟨h1, h2⟩ := hl q hq
      exact ⟨(hC.block _ (Array.getElem?_eq_some_iff.1 (h.outs q h1).1).1 h2).trans (h.outs q h1).1, (h.outs q h1).2⟩

/-- The graph box of the reference holds no string. -/
theorem nostrR {x0 x1 : Int} {A2 A3 A4 A5 : Option Addr} {n2 n3 n4 n5 c2 c3 c4 c5 : Nat} : ∀ (k : Nat) (s : ByteArray), (#[.int .i64 x0, .int .i64 x1, .slice A2 n2 c2, .slice A3 n3 c3, .slice A4 n4 c4, .slice A5 n5 c5] : Array Value)[k]? ≠ some (.string s) := by
  intro k s
  match k with
  | 0 => simp
  | 1 => simp
  | 2 => simp
  | 3 => simp
  | 4 => simp
  | 5 => simp
  | k + 6 => simp

theorem st1_does {g : Nat} {G : Gr} (h : St1 T sp len S w w1 g G l) {lr : List (Nat × Obj)} {ρ : RLay} (hr : RefAt T S lr ρ G) (hl : ∀ q ∈ lr, q ∈ l) (HS : ShOk w A len S) (hn0 : 1 ≤ G.n) (hn : G.n ≤ 99999) (t : Int) (z : Nat → Int) :
    Calls Try.prog 18 #[.pointer (some ⟨g, 0, none⟩), rV T sp A len cap ρ G.n, .agg #[.int .i64 t, .int .i64 (z 0), .int .i64 (z 1), .int .i64 (z 2), .int .i64 (z 3), .int .i64 (z 4), .int .i64 (z 5), .int .i64 (z 6), .int .i64 (z 7)]] w1 fun e w' => ∃ ρ' lr', e = .returned (.tuple #[rV T sp A len cap ρ' (G.go len S T t z).n, .bool true]) ∧ RefAt T S lr' ρ' (G.go len S T t z) ∧ (∀ q ∈ lr', (∃ o, (q.1, o) ∈ lr) ∨ w1.heap.size ≤ q.1) ∧ St1 T sp len S w w' g (G.go len S T t z) (lr' ++ l) := by
  refine (does_any (i := 0) (m := 1) (gf := tri g g g) (Gf := tri G G G) h Nat.one_pos rfl hr hl HS hn0 hn t z).mono ?_
  rintro e w' ⟨ρ', lr', he, hr', hrb, hs⟩
  refine ⟨ρ', lr', he, hr', hrb, ?_⟩
  have h1 : ∀ i, i < 1 → tri (G.go len S T t z) (G.go len S T t z) (G.go len S T t z) i = updG (tri G G G) 0 (G.go len S T t z) i := fun i hi => by
    have e : i = 0 := by omega
    subst e
    rfl
  exact St.congr (m := 1) hs (fun _ _ => rfl) h1

theorem rRight_any (t : Int) (cap : Nat) (S : Nat → ByteArray) (hlen : len ≤ 9223372036854775807) (hS : ∀ i, i < len → (S i).size ≤ 9223372036854775807) (w : World) (H : ShOk w A len S) :
    Calls Try.prog 16 #[.agg #[.int .i64 t, .int .i64 sp, .slice A len cap]] w fun e w' => e = .returned (.bool (okPB t sp len S)) ∧ Below w.heap.size w w' := by
  have c1 := hide (fun W (hW : Below w.heap.size w W) => right06_any t sp A len cap S hlen hS W (H.keep hW))
  clear H hS
  generalize okPB t sp len S = B at *
  go_enter Try.func16, Try.ntmps16
  go_upto_region 1 with fail
  refine wp_gen ?_
  intro w1 hw1
  have p0 : w1.cell? ⟨w.heap.size, 0, none⟩ = some (.int .i64 t) := by rw [hw1]; go_simp
  have p1 : w1.cell? ⟨w.heap.size, 1, none⟩ = some (.int .i64 sp) := by rw [hw1]; go_simp
  have p2 : w1.cell? ⟨w.heap.size, 2, none⟩ = some (.slice A len cap) := by rw [hw1]; go_simp
  have hB1 : Below w.heap.size w w1 := by rw [hw1]; repeat (first | exact Below.refl _ _ | assumption | refine Below.alloc ?_ (by first | (simp; done) | (simp; omega) | omega) _ | refine Below.setCell ?_ (by first | (simp; done) | (simp; omega) | omega) _ | apply Below.drew | refine Below.trans ?_ (Below.mono (by assumption) (by first | (simp; done) | (simp; omega) | omega)))
  clear hw1
  go_wp2_with fail
  refine (unhide c1 _ hB1).mono ?_
  rintro e w2 ⟨rfl, hb2⟩
  have HB := hide (hB1.trans (hb2.mono hB1.size))
  clear hb2 hB1 p0 p1 p2
  go_wp2
  go_ret
  exact ⟨rfl, unhide HB⟩
/-- The reference's graph lies in a box behind a call of does; another box is there for the next one. -/
structure PQ (T : Nat) (sp : Int) (len : Nat) (S : Nat → ByteArray) (w W : World) (g : Nat) (G : Gr) (tb : Nat) (ob : Obj) (lr : List (Nat × Obj)) (pb : Nat) (lr' : List (Nat × Obj)) : Prop where
  st : St1 T sp len S w W g G ((pb, .cells #[.int .i64 0, .int .i64 0, .slice none 0 0, .slice none 0 0, .slice none 0 0, .slice none 0 0] 49 (0, 0)) :: (lr' ++ (tb, ob) :: lr))
  ne1 : ∀ q ∈ lr' ++ (tb, ob) :: lr, q.1 ≠ pb
  ne2 : ∀ q ∈ lr', q.1 ≠ tb
  base : w.heap.size ≤ pb

theorem pq_does {g tb : Nat} {ob : Obj} {G : Gr} {lr : List (Nat × Obj)} {ρ : RLay} (h : St1 T sp len S w w1 g G ((tb, ob) :: lr)) (hne : ∀ q ∈ lr, q.1 ≠ tb) (hr : RefAt T S lr ρ G) (HS : ShOk w A len S) (hn0 : 1 ≤ G.n) (hn : G.n ≤ 99999) (t : Int) (z : Nat → Int) :
    Calls Try.prog 18 #[.pointer (some ⟨g, 0, none⟩), rV T sp A len cap ρ G.n, .agg #[.int .i64 t, .int .i64 (z 0), .int .i64 (z 1), .int .i64 (z 2), .int .i64 (z 3), .int .i64 (z 4), .int .i64 (z 5), .int .i64 (z 6), .int .i64 (z 7)]] w1 fun e w' => ∃ ρ' lr', e = .returned (.tuple #[rV T sp A len cap ρ' (G.go len S T t z).n, .bool true]) ∧ RefAt T S lr' ρ' (G.go len S T t z) ∧ (∀ q ∈ lr', q.1 ≠ tb) ∧ St1 T sp len S w w' g (G.go len S T t z) (lr' ++ (tb, ob) :: lr) := by
  refine (st1_does h hr (fun q hq => List.mem_cons_of_mem _ hq) HS hn0 hn t z).mono ?_
  rintro e w' ⟨ρ', lr', he, hr', hrb, hs⟩
  refine ⟨ρ', lr', he, hr', fun q hq => ?_, hs⟩
  have hl := h.lt (q := (tb, ob)) List.mem_cons_self
  have hl : tb < w1.heap.size := hl
  rcases hrb q hq with ⟨o, ho⟩ | h9
  · exact hne (q.1, o) ho
  · omega

/-- The box is laid behind the call. -/
theorem pq_box {g tb : Nat} {ob : Obj} {G : Gr} {lr lr' : List (Nat × Obj)} (h : St1 T sp len S w W g G (lr' ++ (tb, ob) :: lr)) (hne : ∀ q ∈ lr', q.1 ≠ tb) :
    PQ T sp len S w (W.alloc (.cells #[.int .i64 0, .int .i64 0, .slice none 0 0, .slice none 0 0, .slice none 0 0, .slice none 0 0] 49)) g G tb ob lr W.heap.size lr' :=
  ⟨h.box _ _, fun q hq => by have := h.lt hq; omega, hne, h.b.size⟩

/-- .. or ahead of it. -/
theorem pq_does' {g tb : Nat} {ob : Obj} {G : Gr} {lr : List (Nat × Obj)} {ρ : RLay} (h : St1 T sp len S w W g G ((tb, ob) :: lr)) (hne : ∀ q ∈ lr, q.1 ≠ tb) (hr : RefAt T S lr ρ G) (HS : ShOk w A len S) (hn0 : 1 ≤ G.n) (hn : G.n ≤ 99999) (t : Int) (z : Nat → Int)
    (hw : W.alloc (.cells #[.int .i64 0, .int .i64 0, .slice none 0 0, .slice none 0 0, .slice none 0 0, .slice none 0 0] 49) = w1) :
    Calls Try.prog 18 #[.pointer (some ⟨g, 0, none⟩), rV T sp A len cap ρ G.n, .agg #[.int .i64 t, .int .i64 (z 0), .int .i64 (z 1), .int .i64 (z 2), .int .i64 (z 3), .int .i64 (z 4), .int .i64 (z 5), .int .i64 (z 6), .int .i64 (z 7)]] w1 fun e w' => ∃ ρ' lr', e = .returned (.tuple #[rV T sp A len cap ρ' (G.go len S T t z).n, .bool true]) ∧ RefAt T S lr' ρ' (G.go len S T t z) ∧ PQ T sp len S w w' g (G.go len S T t z) tb ob lr W.heap.size lr' := by
  subst hw
  have h1 := h.box #[.int .i64 0, .int .i64 0, .slice none 0 0, .slice none 0 0, .slice none 0 0, .slice none 0 0] 49
  refine (st1_does h1 hr (fun q hq => List.mem_cons_of_mem _ (List.mem_cons_of_mem _ hq)) HS hn0 hn t z).mono ?_
  rintro e w' ⟨ρ', lr', he, hr', hrb, hs⟩
  have hlt : ∀ q ∈ (tb, ob) :: lr, q.1 < W.heap.size := fun q hq => h.lt hq
  have htb : tb < W.heap.size := hlt (tb, ob) List.mem_cons_self
  refine ⟨ρ', lr', he, hr', ⟨hs.more (fun q hq => ?_), fun q hq => ?_, fun q hq => ?_, h.b.size⟩⟩
  · rcases List.mem_cons.1 hq with hq | hq
    · subst hq; exact List.mem_append_right _ List.mem_cons_self
    · rcases List.mem_append.1 hq with hq | hq
      · exact List.mem_append_left _ hq
      · exact List.mem_append_right _ (List.mem_cons_of_mem _ hq)
  · rcases List.mem_append.1 hq with hq | hq
    · rcases hrb q hq with ⟨o, ho⟩ | h9
      · have := hlt _ (List.mem_cons_of_mem _ ho)
        have this : q.1 < W.heap.size := this
        omega
      · simp only [World.size_alloc] at h9
        omega
    · have := hlt q hq
      omega
  · rcases hrb q hq with ⟨o, ho⟩ | h9
    · exact hne (q.1, o) ho
    · simp only [World.size_alloc] at h9
      omega

theorem PQ.kpt {g tb pb : Nat} {ob : Obj} {G : Gr} {lr lr' : List (Nat × Obj)} (h : PQ T sp len S w W g G tb ob lr pb lr') : IsKpt w [(tb, ob)] W :=
  h.st.kpts (fun q hq => by
    obtain rfl := List.mem_singleton.1 hq
    exact List.mem_cons_of_mem _ (List.mem_append_right _ List.mem_cons_self))

theorem PQ.at {g tb pb : Nat} {ob : Obj} {G : Gr} {lr lr' : List (Nat × Obj)} (h : PQ T sp len S w W g G tb ob lr pb lr') : W.heap[pb]? = some (.cells #[.int .i64 0, .int .i64 0, .slice none 0 0, .slice none 0 0, .slice none 0 0, .slice none 0 0] 49 (0, 0)) := h.st.heap List.mem_cons_self

/-- The next graph is stored into its box. -/
theorem PQ.store {g tb pb : Nat} {ob : Obj} {G : Gr} {lr lr' : List (Nat × Obj)} (h : PQ T sp len S w W g G tb ob lr pb lr') (x0 x1 x2 x3 x4 x5 : Value) :
    St1 T sp len S w ((((((W.setCell ⟨pb, 0, none⟩ x0).setCell ⟨pb, 1, none⟩ x1).setCell ⟨pb, 2, none⟩ x2).setCell ⟨pb, 3, none⟩ x3).setCell ⟨pb, 4, none⟩ x4).setCell ⟨pb, 5, none⟩ x5) g G ((pb, .cells #[x0, x1, x2, x3, x4, x5] 49 (0, 0)) :: (lr' ++ (tb, ob) :: lr)) :=
  h.st.put (((((((Chg.refl _ _).set1 _).set1 _).set1 _).set1 _).set1 _).set1 _) List.mem_cons_self h.base nostr6 (put6 h.at) (fun q hq => ⟨List.mem_cons_of_mem _ hq, h.ne1 q hq⟩)

/-- .. and back into the first one. -/
theorem st1_back {g tb : Nat} {x0 x1 : Int} {A2 A3 A4 A5 : Option Addr} {n2 n3 n4 n5 c2 c3 c4 c5 : Nat} {G : Gr} {l lr' : List (Nat × Obj)} (h : St1 T sp len S w W g G l) (hm : (tb, .cells #[.int .i64 x0, .int .i64 x1, .slice A2 n2 c2, .slice A3 n3 c3, .slice A4 n4 c4, .slice A5 n5 c5] 49 (0, 0)) ∈ l) (hb : w.heap.size ≤ tb) (hl : ∀ q ∈ lr', q ∈ l ∧ q.1 ≠ tb) (y0 y1 y2 y3 y4 y5 : Value) :
    St1 T sp len S w ((((((W.setCell ⟨tb, 0, none⟩ y0).setCell ⟨tb, 1, none⟩ y1).setCell ⟨tb, 2, none⟩ y2).setCell ⟨tb, 3, none⟩ y3).setCell ⟨tb, 4, none⟩ y4).setCell ⟨tb, 5, none⟩ y5) g G ((tb, .cells #[y0, y1, y2, y3, y4, y5] 49 (0, 0)) :: lr') :=
  h.put (((((((Chg.refl _ _).set1 _).set1 _).set1 _).set1 _).set1 _).set1 _) hm hb nostrR (put6 (h.heap hm)) hl
end
end Go.Proofs.Ytbkaopeajjechaa
