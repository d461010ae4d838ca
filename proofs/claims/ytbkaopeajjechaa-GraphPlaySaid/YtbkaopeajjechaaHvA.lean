/- The reference of layer 9: how its graphs lie in memory (they are values: nothing is ever changed in place); slot. The reference of layer 9: field. The reference of layer 9: New. -/
import Derived.Test.YtbkaopeajjechaaGuE
namespace Go.Proofs.Ytbkaopeajjechaa
set_option linter.unusedVariables false
set_option linter.unusedSimpArgs false
open Go.RowKit Go.Maps

/-- Where the rows of a graph of the reference lie. -/
structure RLay where
  rb : Nat
  rc : Nat
  rh : Nat → Nat
  rhc : Nat → Nat
  sb : Nat
  sc : Nat
  fb : Nat
  fc : Nat
  fh : Nat → Nat
  fhc : Nat → Nat

def rV (T : Nat) (sp : Int) (A : Option Addr) (len cap : Nat) (ρ : RLay) (n : Nat) : Value := .agg #[.int .i64 (T : Int), .int .i64 sp, .slice A len cap, .slice (some ⟨ρ.rb, 0, none⟩) T ρ.rc, .slice (some ⟨ρ.sb, 0, none⟩) n ρ.sc, .slice (some ⟨ρ.fb, 0, none⟩) n ρ.fc]

/-- A graph of the reference in memory. -/
structure IsR (T : Nat) (S : Nat → ByteArray) (W : World) (ρ : RLay) (G : Gr) : Prop where
  rows : ∀ t, t < T → W.cell? ⟨ρ.rb, t, none⟩ = some (.slice (some ⟨ρ.rh t, 0, none⟩) 6 (ρ.rhc t))
  root : ∀ t s, t < T → s < 6 → W.cell? ⟨ρ.rh t, s, none⟩ = some (.int .i64 (G.root t s : Nat))
  shp : ∀ x, x < G.n → W.cell? ⟨ρ.sb, x, none⟩ = some (.int .i64 (G.sh (x + 1) : Nat))
  flds : ∀ x, x < G.n → W.cell? ⟨ρ.fb, x, none⟩ = some (.slice (some ⟨ρ.fh x, 0, none⟩) (S (G.sh (x + 1))).size (ρ.fhc x))
  fld : ∀ x f, x < G.n → f < (S (G.sh (x + 1))).size → W.cell? ⟨ρ.fh x, f, none⟩ = some (.int .i64 (G.fl (x + 1) f))

theorem cell_below {w W : World} (hb : Below w.heap.size w W) {b o : Nat} {v : Value} (h : w.cell? ⟨b, o, none⟩ = some v) : W.cell? ⟨b, o, none⟩ = some v := (hb.cell (p := ⟨b, o, none⟩) (block_lt h)).trans h

theorem IsR.below {T : Nat} {S : Nat → ByteArray} {w W : World} {ρ : RLay} {G : Gr} (h : IsR T S w ρ G) (hb : Below w.heap.size w W) : IsR T S W ρ G :=
  ⟨fun t ht => cell_below hb (h.rows t ht), fun t s ht hs => cell_below hb (h.root t s ht hs), fun x hx => cell_below hb (h.shp x hx), fun x hx => cell_below hb (h.flds x hx), fun x f hx hf => cell_below hb (h.fld x f hx hf)⟩

/-- The blocks that a graph of the reference reads. -/
def RBlk (T : Nat) (S : Nat → ByteArray) (ρ : RLay) (G : Gr) (b : Nat) : Prop := b = ρ.rb ∨ b = ρ.sb ∨ b = ρ.fb ∨ (∃ t, t < T ∧ b = ρ.rh t) ∨ ∃ x, x < G.n ∧ 0 < (S (G.sh (x + 1))).size ∧ b = ρ.fh x

theorem IsR.lt {T : Nat} {S : Nat → ByteArray} {w : World} {ρ : RLay} {G : Gr} (h : IsR T S w ρ G) (hT : 1 ≤ T) (hn : 1 ≤ G.n) : ∀ b, RBlk T S ρ G b → b < w.heap.size := by
  rintro b (rfl | rfl | rfl | ⟨t, ht, rfl⟩ | ⟨x, hx, h0, rfl⟩)
  · exact block_lt (h.rows 0 (by omega))
  · exact block_lt (h.shp 0 (by omega))
  · exact block_lt (h.flds 0 (by omega))
  · exact block_lt (h.root t 0 ht (by omega))
  · exact block_lt (h.fld x 0 hx h0)

theorem IsR.chg {Z : Nat → Prop} {T : Nat} {S : Nat → ByteArray} {w W : World} {ρ : RLay} {G : Gr} (h : IsR T S w ρ G) (hc : Chg Z w W) (hZ : ∀ b, RBlk T S ρ G b → ¬ Z b) : IsR T S W ρ G := by
  have key : ∀ {b o : Nat} {v : Value}, w.cell? ⟨b, o, none⟩ = some v → RBlk T S ρ G b → W.cell? ⟨b, o, none⟩ = some v := fun h1 h2 => (hc.cell (block_lt h1) (hZ _ h2)).trans h1
  exact ⟨fun t ht => key (h.rows t ht) (.inl rfl), fun t s ht hs => key (h.root t s ht hs) (.inr (.inr (.inr (.inl ⟨t, ht, rfl⟩)))), fun x hx => key (h.shp x hx) (.inr (.inl rfl)), fun x hx => key (h.flds x hx) (.inr (.inr (.inl rfl))),
    fun x f hx hf => key (h.fld x f hx hf) (.inr (.inr (.inr (.inr ⟨x, hx, by omega, rfl⟩))))⟩

/-- The cells of a block. -/
theorem cells3 {W : World} {b : Nat} {t : TypeId} {a0 a1 a2 : Value} (h : W.heap[b]? = some (Obj.cells #[a0, a1, a2] t (0, 0))) : W.cell? ⟨b, 0, none⟩ = some a0 ∧ W.cell? ⟨b, 1, none⟩ = some a1 ∧ W.cell? ⟨b, 2, none⟩ = some a2 :=
  ⟨Lib.cell_of_heap h 0, Lib.cell_of_heap h 1, Lib.cell_of_heap h 2⟩
theorem cells6 {W : World} {b : Nat} {t : TypeId} {a0 a1 a2 a3 a4 a5 : Value} (h : W.heap[b]? = some (Obj.cells #[a0, a1, a2, a3, a4, a5] t (0, 0))) : W.cell? ⟨b, 0, none⟩ = some a0 ∧ W.cell? ⟨b, 1, none⟩ = some a1 ∧ W.cell? ⟨b, 2, none⟩ = some a2 ∧ W.cell? ⟨b, 3, none⟩ = some a3 ∧ W.cell? ⟨b, 4, none⟩ = some a4 ∧ W.cell? ⟨b, 5, none⟩ = some a5 :=
  ⟨Lib.cell_of_heap h 0, Lib.cell_of_heap h 1, Lib.cell_of_heap h 2, Lib.cell_of_heap h 3, Lib.cell_of_heap h 4, Lib.cell_of_heap h 5⟩
theorem cells8 {W : World} {b : Nat} {t : TypeId} {a0 a1 a2 a3 a4 a5 a6 a7 : Value} (h : W.heap[b]? = some (Obj.cells #[a0, a1, a2, a3, a4, a5, a6, a7] t (0, 0))) : W.cell? ⟨b, 0, none⟩ = some a0 ∧ W.cell? ⟨b, 1, none⟩ = some a1 ∧ W.cell? ⟨b, 2, none⟩ = some a2 ∧ W.cell? ⟨b, 3, none⟩ = some a3 ∧ W.cell? ⟨b, 4, none⟩ = some a4 ∧ W.cell? ⟨b, 5, none⟩ = some a5 ∧ W.cell? ⟨b, 6, none⟩ = some a6 ∧ W.cell? ⟨b, 7, none⟩ = some a7 :=
  ⟨Lib.cell_of_heap h 0, Lib.cell_of_heap h 1, Lib.cell_of_heap h 2, Lib.cell_of_heap h 3, Lib.cell_of_heap h 4, Lib.cell_of_heap h 5, Lib.cell_of_heap h 6, Lib.cell_of_heap h 7⟩
theorem cells9 {W : World} {b : Nat} {t : TypeId} {a0 a1 a2 a3 a4 a5 a6 a7 a8 : Value} (h : W.heap[b]? = some (Obj.cells #[a0, a1, a2, a3, a4, a5, a6, a7, a8] t (0, 0))) : W.cell? ⟨b, 0, none⟩ = some a0 ∧ W.cell? ⟨b, 1, none⟩ = some a1 ∧ W.cell? ⟨b, 2, none⟩ = some a2 ∧ W.cell? ⟨b, 3, none⟩ = some a3 ∧ W.cell? ⟨b, 4, none⟩ = some a4 ∧ W.cell? ⟨b, 5, none⟩ = some a5 ∧ W.cell? ⟨b, 6, none⟩ = some a6 ∧ W.cell? ⟨b, 7, none⟩ = some a7 ∧ W.cell? ⟨b, 8, none⟩ = some a8 :=
  ⟨Lib.cell_of_heap h 0, Lib.cell_of_heap h 1, Lib.cell_of_heap h 2, Lib.cell_of_heap h 3, Lib.cell_of_heap h 4, Lib.cell_of_heap h 5, Lib.cell_of_heap h 6, Lib.cell_of_heap h 7, Lib.cell_of_heap h 8⟩
theorem frz {W : World} {b : Nat} {c : Array Value} {t : TypeId} (h : W.heap[b]? = some (Obj.cells c t (0, 0))) : ∀ i, W.frozen? ⟨b, i, none⟩ = false := fun i => by simp [World.frozen?, h]
theorem alloc4 {w W : World} {a b c d : Obj} (h : W = (((w.alloc a).alloc b).alloc c).alloc d) : Below w.heap.size w W ∧ w.heap.size + 4 ≤ W.heap.size ∧ W.heap[w.heap.size]? = some a ∧ W.heap[w.heap.size + 1]? = some b ∧ W.heap[w.heap.size + 2]? = some c ∧ W.heap[w.heap.size + 3]? = some d := by
  have h' : [a, b, c, d].foldl World.alloc w = W := h.symm
  have h1 := allocs_below [a, b, c, d] w
  have h2 := allocs_size [a, b, c, d] w
  have h3 := allocs_at [a, b, c, d] w
  rw [h'] at h1 h2 h3
  exact ⟨h1, Nat.le_of_eq h2.symm, h3 0 _ rfl, h3 1 _ rfl, h3 2 _ rfl, h3 3 _ rfl⟩

/-- A row of one's own that is not empty. -/
theorem own_form {W : World} {base : Nat} {e : TypeId} {n : Nat} {v : Value} {xs : List Value} (h : W.ownsRow base e 1 v n xs) (hn : 0 < n) :
    ∃ g c, v = .slice (some ⟨g, 0, none⟩) n c ∧ base ≤ g ∧ g < W.heap.size ∧ (∀ j u, xs[j]? = some u → W.cell? ⟨g, j, none⟩ = some u) ∧ ∀ j, W.frozen? ⟨g, j, none⟩ = false := by
  obtain ⟨hl, ⟨e1, e2⟩ | ⟨g, c, cur, e1, e2, hg, e3⟩⟩ := id h
  · omega
  · refine ⟨g, c, e1, e2, (Array.getElem?_eq_some_iff.1 hg).1, fun j u hu => ?_, fun j => by simp [World.frozen?, hg]⟩
    have := h.cells (g := g) (by rw [e1]; rfl) j u hu
    rwa [show (⟨g, 0, none⟩ : Addr).add j = ⟨g, j, none⟩ by unfold Addr.add; split <;> simp_all] at this

/-- Cells that are laid one behind the other. -/
theorem news_at {w : World} {g : Nat} {n : Nat} {f : Nat → Value} (h : ∀ j, j < n → w.cell? ⟨g, j, none⟩ = some (f j)) : ∀ j u, ((List.range n).map f)[j]? = some u → w.cell? ((⟨g, 0, none⟩ : Addr).add j) = some u := by
  intro j u hu
  rw [List.getElem?_map] at hu
  have hj : j < n := by
    rcases Nat.lt_or_ge j n with h | h
    · exact h
    · rw [List.getElem?_eq_none (by simpa using h)] at hu
      cases hu
  rw [List.getElem?_range hj] at hu
  injection hu with hu
  rw [← hu, ← h j hj]
  rw [show (⟨g, 0, none⟩ : Addr).add j = ⟨g, j, none⟩ by unfold Addr.add; split <;> simp_all]

theorem at_news {n : Nat} {f : Nat → Value} {j : Nat} (h : j < n) : ((List.range n).map f)[j]? = some (f j) := by
  rw [List.getElem?_map, List.getElem?_range h]
  rfl

set_option maxRecDepth 100000 in
theorem inf_i : ∃ i : TypeInfo, Try.prog.info? 3 = some i ∧ i.zero = some (.int .i64 0) ∧ i.size = 1 ∧ i.bytes = 8 := ⟨_, rfl, rfl, rfl, rfl⟩
set_option maxRecDepth 100000 in
theorem inf_q : ∃ i : TypeInfo, Try.prog.info? 2 = some i ∧ i.zero = some (.int .i64 0) ∧ i.size = 1 ∧ i.bytes = 8 := ⟨_, rfl, rfl, rfl, rfl⟩
set_option maxRecDepth 100000 in
theorem inf_is : ∃ i : TypeInfo, Try.prog.info? 46 = some i ∧ i.zero = some (.slice none 0 0) ∧ i.size = 1 ∧ i.bytes = 24 := ⟨_, rfl, rfl, rfl, rfl⟩
set_option maxRecDepth 100000 in
theorem inf_qs : ∃ i : TypeInfo, Try.prog.info? 89 = some i ∧ i.zero = some (.slice none 0 0) ∧ i.size = 1 ∧ i.bytes = 24 := ⟨_, rfl, rfl, rfl, rfl⟩

section
variable {T : Nat} {sp : Int} {A : Option Addr} {len cap : Nat} {S : Nat → ByteArray} {w : World} {ρ : RLay} {G : Gr}

theorem Chg.trans' {Z Y : Nat → Prop} {A B C : World} (h : Chg Z A B) (k : Chg Y B C) : Chg (fun j => Z j ∨ Y j) A C := (h.mono (fun _ => .inl)).trans (k.mono (fun _ => .inr))

/-- Another object in a slot: one row and the list of rows are laid anew. -/
theorem IsR.slot_of {W : World} (H : IsR T S w ρ G) (hb : Below w.heap.size w W) {t s x h k h' k' : Nat} (hrow : ∀ q, q < 6 → W.cell? ⟨h, q, none⟩ = some (.int .i64 ((G.slot t s x).root t q : Nat)))
    (hall : ∀ q, q < T → W.cell? ⟨h', q, none⟩ = some (if q = t then .slice (some ⟨h, 0, none⟩) 6 k else .slice (some ⟨ρ.rh q, 0, none⟩) 6 (ρ.rhc q))) :
    IsR T S W { ρ with rb := h', rc := k', rh := fun q => if q = t then h else ρ.rh q, rhc := fun q => if q = t then k else ρ.rhc q } (G.slot t s x) := by
  have H' := H.below hb
  refine ⟨fun q hq => ?_, fun q r hq hr => ?_, H'.shp, H'.flds, H'.fld⟩
  · show W.cell? ⟨h', q, none⟩ = some (.slice (some ⟨if q = t then h else ρ.rh q, 0, none⟩) 6 (if q = t then k else ρ.rhc q))
    rw [hall q hq]
    by_cases e : q = t
    · simp only [if_pos e]
    · simp only [if_neg e]
  · show W.cell? ⟨if q = t then h else ρ.rh q, r, none⟩ = _
    by_cases e : q = t
    · subst e
      rw [if_pos rfl]
      exact hrow r hr
    · rw [if_neg e]
      refine (H'.root q r hq hr).trans ?_
      show _ = some (Value.int .i64 ((if q = t ∧ r = s then x else G.root q r : Nat) : Int))
      rw [if_neg (fun k => e k.1)]

set_option maxRecDepth 100000 in
set_option maxHeartbeats 4000000 in
theorem rSlot_any (H : IsR T S w ρ G) (hT : T ≤ 8) (t s x : Nat) (ht : t < T) (hs : s < 6) :
    Calls Try.prog 70 #[rV T sp A len cap ρ G.n, .int .i64 (t : Int), .int .i64 (s : Int), .int .i64 (x : Int)] w fun e w' => ∃ ρ', e = .returned (rV T sp A len cap ρ' G.n) ∧ IsR T S w' ρ' (G.slot t s x) ∧ Below w.heap.size w w' ∧ ∀ b, RBlk T S ρ' (G.slot t s x) b → RBlk T S ρ G b ∨ w.heap.size ≤ b := by
  obtain ⟨i0, hi, hz0, hz1, hz2⟩ := inf_i
  obtain ⟨i1, ki, kz0, kz1, kz2⟩ := inf_is
  have INT := hide (show _ ∧ _ ∧ _ ∧ _ from ⟨hi, hz0, hz1, hz2⟩)
  have INS := hide (show _ ∧ _ ∧ _ ∧ _ from ⟨ki, kz0, kz1, kz2⟩)
  clear hi hz0 hz1 hz2 ki kz0 kz1 kz2
  have HI := hide H
  clear H
  unfold rV
  go_enter Try.func70, Try.ntmps70
  go_upto_region 1 with fail
  refine wp_gen ?_
  intro w1 hw1
  have hw1' : [.cells #[.int .i64 (T : Int), .int .i64 sp, .slice A len cap, .slice (some ⟨ρ.rb, 0, none⟩) T ρ.rc, .slice (some ⟨ρ.sb, 0, none⟩) G.n ρ.sc, .slice (some ⟨ρ.fb, 0, none⟩) G.n ρ.fc] 49, .cells #[.int .i64 0, .int .i64 0, .slice none 0 0, .slice none 0 0, .slice none 0 0, .slice none 0 0] 49].foldl World.alloc w = w1 := hw1.symm
  have hB1 := allocs_below [.cells #[.int .i64 (T : Int), .int .i64 sp, .slice A len cap, .slice (some ⟨ρ.rb, 0, none⟩) T ρ.rc, .slice (some ⟨ρ.sb, 0, none⟩) G.n ρ.sc, .slice (some ⟨ρ.fb, 0, none⟩) G.n ρ.fc] 49, .cells #[.int .i64 0, .int .i64 0, .slice none 0 0, .slice none 0 0, .slice none 0 0, .slice none 0 0] 49] w
  have hz1 := allocs_size [.cells #[.int .i64 (T : Int), .int .i64 sp, .slice A len cap, .slice (some ⟨ρ.rb, 0, none⟩) T ρ.rc, .slice (some ⟨ρ.sb, 0, none⟩) G.n ρ.sc, .slice (some ⟨ρ.fb, 0, none⟩) G.n ρ.fc] 49, .cells #[.int .i64 0, .int .i64 0, .slice none 0 0, .slice none 0 0, .slice none 0 0, .slice none 0 0] 49] w
  have hA1 := allocs_at [.cells #[.int .i64 (T : Int), .int .i64 sp, .slice A len cap, .slice (some ⟨ρ.rb, 0, none⟩) T ρ.rc, .slice (some ⟨ρ.sb, 0, none⟩) G.n ρ.sc, .slice (some ⟨ρ.fb, 0, none⟩) G.n ρ.fc] 49, .cells #[.int .i64 0, .int .i64 0, .slice none 0 0, .slice none 0 0, .slice none 0 0, .slice none 0 0] 49] w
  rw [hw1'] at hB1 hz1 hA1
  clear hw1 hw1'
  simp only [List.length_cons, List.length_nil, Nat.zero_add, Nat.reduceAdd] at hz1
  have hz1 := Nat.le_of_eq hz1.symm
  have a0 : w1.heap[w.heap.size]? = _ := hA1 0 _ rfl
  have a1 : w1.heap[w.heap.size + 1]? = _ := hA1 1 _ rfl
  clear hA1
  have H1 := hide ((unhide HI).below hB1)
  have c0 := Lib.cell_of_heap a0 0
  have c1 := Lib.cell_of_heap a0 1
  have c2 := Lib.cell_of_heap a0 2
  have c3 : w1.cell? ⟨w.heap.size, 3, none⟩ = some (.slice (some ⟨ρ.rb, 0, none⟩) T ρ.rc) := Lib.cell_of_heap a0 3
  have c4 := Lib.cell_of_heap a0 4
  have c5 := Lib.cell_of_heap a0 5
  have r0 := (unhide H1).rows t ht
  have g0 : (0 : Int) ≤ (t : Int) := by omega
  have g1 : (t : Int) < (T : Int) := by omega
  obtain ⟨xs, hxs⟩ : ∃ xs, xs = (List.range 6).map fun s => Value.int .i64 (G.root t s : Nat) := ⟨_, rfl⟩
  have HXS := hide hxs
  have hxl : xs.length = 6 * 1 := by rw [hxs]; simp
  clear hxs
  obtain ⟨hi, hz0, hz1', hz2⟩ := unhide INT
  go_wp2_with (at_builtin; refine wpList_append_own _ rfl (.const (.slice none 0 0)) (.tmp 15) _ rfl w1.heap.size 3 i0 (.int .i64 0) 1 8 Try.underlying46 hi hz0 hz1' hz2 rfl (by decide) _ _ _ rfl (World.ownsRow_nil _ _ _ _) ⟨ρ.rh t, 0, none⟩ 6 (ρ.rhc t) xs rfl hxl ?c1 ?c2 ?c3 ?c4 ?c5 ?_)
  case c1 => rw [unhide HXS]; exact news_at (fun s hs => (unhide H1).root t s ht hs)
  case c2 => rw [unhide HXS]; simp [Value.oneCell']
  case c3 => simp only [maxLen]; omega
  case c4 => omega
  case c5 => simp
  intro v9 w2 how hgr _
  obtain ⟨h9, k9, rfl, hb9, hl9, hc9, hf9⟩ := own_form how (by omega)
  have hB2 : Below w1.heap.size w1 w2 := (Below.refl _ _).grown hgr (Nat.le_refl _) (fun r hr => by cases hr)
  have hc9' : ∀ q, q < 6 → w2.cell? ⟨h9, q, none⟩ = some (.int .i64 (G.root t q : Nat)) := fun q hq => hc9 q _ (by show xs[q]? = _; rw [unhide HXS]; exact at_news hq)
  clear how hgr hc9 HXS hxl hi hz0 hz1' hz2 c0 c1 c2 c3 c4 c5 r0
  have f9 := hf9 s
  have x9 := hc9' s hs
  have g2 : (0 : Int) ≤ (s : Int) := by omega
  have g3 : (s : Int) < 6 := by omega
  go_upto_region 3 with fail
  refine wp_gen ?_
  intro w3 hw3
  have hC3 : Chg (fun j => j = h9) w2 w3 := by rw [hw3]; exact (Chg.refl _ _).set1 _
  have h93 : ∀ q, q < 6 → w3.cell? ⟨h9, q, none⟩ = some (.int .i64 ((G.slot t s x).root t q : Nat)) := fun q hq => by
    rw [hw3]
    show _ = some (Value.int .i64 ((if t = t ∧ q = s then x else G.root t q : Nat) : Int))
    by_cases e : q = s
    · subst e
      rw [World.cell?_setCell_same' _ _ _ (by rw [x9]; rfl), if_pos ⟨rfl, rfl⟩]
    · rw [World.cell?_setCell_other _ _ _ _ (fun k => e (by injection k with _ k _; exact k.symm)), if_neg (fun k => e k.2)]
      exact hc9' q hq
  clear hw3 x9 f9 hc9' hf9
  have hs2 := hB2.size
  have hs3 := hC3.size
  have hB3 : Below w1.heap.size w1 w3 := Chg.then_below hB2 hC3 (fun j e => by subst e; omega) hs2
  clear hC3
  have hq3 := hB3.size
  have d0 : w3.heap[w.heap.size]? = _ := (hB3.block _ (by omega)).trans a0
  have d1 : w3.heap[w.heap.size + 1]? = _ := (hB3.block _ (by omega)).trans a1
  have H3 := hide ((unhide H1).below hB3)
  have c0 := Lib.cell_of_heap d0 0
  have c1 := Lib.cell_of_heap d0 1
  have c2 := Lib.cell_of_heap d0 2
  have c3 : w3.cell? ⟨w.heap.size, 3, none⟩ = some (.slice (some ⟨ρ.rb, 0, none⟩) T ρ.rc) := Lib.cell_of_heap d0 3
  have c4 := Lib.cell_of_heap d0 4
  have c5 := Lib.cell_of_heap d0 5
  obtain ⟨ki, kz0, kz1, kz2⟩ := unhide INS
  go_wp2_with (at_builtin; refine wpList_append_own _ rfl (.const (.slice none 0 0)) (.tmp 22) _ rfl w3.heap.size 46 i1 (.slice none 0 0) 1 24 Try.underlying45 ki kz0 kz1 kz2 rfl (by decide) _ _ _ rfl (World.ownsRow_nil _ _ _ _) ⟨ρ.rb, 0, none⟩ T ρ.rc ((List.range T).map fun t => Value.slice (some ⟨ρ.rh t, 0, none⟩) 6 (ρ.rhc t)) rfl (by simp) ?c1 ?c2 ?c3 ?c4 ?c5 ?_)
  case c1 => exact news_at (fun t ht => (unhide H3).rows t ht)
  case c2 => simp [Value.oneCell']
  case c3 => simp only [maxLen]; omega
  case c4 => omega
  case c5 => simp
  intro v10 w4 how hgr _
  obtain ⟨h10, k10, rfl, hb10, hl10, hc10, hf10⟩ := own_form how (by omega)
  have hB4 : Below w3.heap.size w3 w4 := (Below.refl _ _).grown hgr (Nat.le_refl _) (fun r hr => by cases hr)
  have hc10' : ∀ q, q < T → w4.cell? ⟨h10, q, none⟩ = some (.slice (some ⟨ρ.rh q, 0, none⟩) 6 (ρ.rhc q)) := fun q hq => hc10 q _ (at_news hq)
  clear how hgr hc10 ki kz0 kz1 kz2 c0 c1 c2 c3 c4 c5
  have f10 := hf10 t
  have x10 := hc10' t ht
  have e0 : w4.heap[w.heap.size]? = _ := (hB4.block _ (by omega)).trans d0
  have e1 : w4.heap[w.heap.size + 1]? = _ := (hB4.block _ (by omega)).trans d1
  have c0 : w4.cell? ⟨w.heap.size, 0, none⟩ = some (.int .i64 (T : Int)) := Lib.cell_of_heap e0 0
  have c1 : w4.cell? ⟨w.heap.size, 1, none⟩ = some (.int .i64 sp) := Lib.cell_of_heap e0 1
  have c2 : w4.cell? ⟨w.heap.size, 2, none⟩ = some (.slice A len cap) := Lib.cell_of_heap e0 2
  have c3 : w4.cell? ⟨w.heap.size, 3, none⟩ = some (.slice (some ⟨ρ.rb, 0, none⟩) T ρ.rc) := Lib.cell_of_heap e0 3
  have c4 : w4.cell? ⟨w.heap.size, 4, none⟩ = some (.slice (some ⟨ρ.sb, 0, none⟩) G.n ρ.sc) := Lib.cell_of_heap e0 4
  have c5 : w4.cell? ⟨w.heap.size, 5, none⟩ = some (.slice (some ⟨ρ.fb, 0, none⟩) G.n ρ.fc) := Lib.cell_of_heap e0 5
  have b0 : w4.cell? ⟨w.heap.size + 1, 0, none⟩ = some (.int .i64 0) := Lib.cell_of_heap e1 0
  have b1 : w4.cell? ⟨w.heap.size + 1, 1, none⟩ = some (.int .i64 0) := Lib.cell_of_heap e1 1
  have b2 : w4.cell? ⟨w.heap.size + 1, 2, none⟩ = some (.slice none 0 0) := Lib.cell_of_heap e1 2
  have b3 : w4.cell? ⟨w.heap.size + 1, 3, none⟩ = some (.slice none 0 0) := Lib.cell_of_heap e1 3
  have b4 : w4.cell? ⟨w.heap.size + 1, 4, none⟩ = some (.slice none 0 0) := Lib.cell_of_heap e1 4
  have b5 : w4.cell? ⟨w.heap.size + 1, 5, none⟩ = some (.slice none 0 0) := Lib.cell_of_heap e1 5
  have fa : ∀ i, w4.frozen? ⟨w.heap.size, i, none⟩ = false := fun i => by simp [World.frozen?, e0]
  have fb : ∀ i, w4.frozen? ⟨w.heap.size + 1, i, none⟩ = false := fun i => by simp [World.frozen?, e1]
  have hs4 := hB4.size
  have n1 : h10 ≠ w.heap.size := by omega
  have n2 : h10 ≠ w.heap.size + 1 := by omega
  go_wp2_with fail
  refine bodyPost_ret (v := .agg #[.int .i64 (T : Int), .int .i64 sp, .slice A len cap, .slice (some ⟨h10, 0, none⟩) T k10, .slice (some ⟨ρ.sb, 0, none⟩) G.n ρ.sc, .slice (some ⟨ρ.fb, 0, none⟩) G.n ρ.fc]) (by simp only [results, Try.results70]; go_simp) rfl ?_
  generalize hW : World.setCell _ _ _ = W
  have hD : Chg (fun j => j = w.heap.size ∨ j = w.heap.size + 1) (w4.setCell ⟨h10, t, none⟩ (.slice (some ⟨h9, 0, none⟩) 6 k9)) W := by
    rw [← hW]
    exact ((((((((Chg.refl _ _).set (.inr (.inl rfl)) _).set (.inr (.inr rfl)) _).set (.inr (.inr rfl)) _).set (.inr (.inr rfl)) _).set (.inr (.inr rfl)) _).set (.inr (.inr rfl)) _).set (.inr (.inr rfl)) _)
  clear hW
  have hE : Chg (fun j => j = h10) w4 (w4.setCell ⟨h10, t, none⟩ (.slice (some ⟨h9, 0, none⟩) 6 k9)) := (Chg.refl _ _).set1 _
  have hze := hE.size
  have hB : Below w.heap.size w W := (hB1.trans ((hB3.trans (hB4.mono hq3)).mono (by omega))).trans (Chg.below (hE.trans' hD) (fun i hi => by rcases hi with rfl | rfl | rfl <;> omega) (by omega))
  refine ⟨_, rfl, (unhide HI).slot_of (h := h9) (k := k9) (h' := h10) (k' := k10) hB (fun q hq => ?_) (fun q hq => ?_), hB, ?_⟩
  · exact (hD.cell (by omega) (by omega)).trans ((hE.cell (by omega) (by omega)).trans (cell_below hB4 (h93 q hq)))
  · refine (hD.cell (by omega) (by omega)).trans ?_
    by_cases e : q = t
    · subst e
      rw [World.cell?_setCell_same' _ _ _ (by rw [x10]; rfl), if_pos rfl]
    · rw [World.cell?_setCell_other _ _ _ _ (fun k => e (by injection k with _ k _; exact k.symm)), if_neg e]
      exact hc10' q hq
  · rintro b (e | e | e | ⟨q, hq, e⟩ | ⟨q, hq, h0, e⟩)
    · exact .inr (by have e : b = h10 := e; omega)
    · exact .inl (.inr (.inl e))
    · exact .inl (.inr (.inr (.inl e)))
    · have e : b = if q = t then h9 else ρ.rh q := e
      split at e
      · exact .inr (by omega)
      · exact .inl (.inr (.inr (.inr (.inl ⟨q, hq, e⟩))))
    · exact .inl (.inr (.inr (.inr (.inr ⟨q, hq, h0, e⟩))))
end
end Go.Proofs.Ytbkaopeajjechaa

namespace Go.Proofs.Ytbkaopeajjechaa
set_option linter.unusedVariables false
set_option linter.unusedSimpArgs false
open Go.RowKit Go.Maps
section
variable {T : Nat} {sp : Int} {A : Option Addr} {len cap : Nat} {S : Nat → ByteArray} {w : World} {ρ : RLay} {G : Gr}

/-- Another number in a field: one row and the list of rows are laid anew. -/
theorem IsR.field_of {W : World} (H : IsR T S w ρ G) (hb : Below w.heap.size w W) {y f h k h' k' : Nat} {v : Int} (hrow : ∀ q, q < (S (G.sh (y + 1))).size → W.cell? ⟨h, q, none⟩ = some (.int .i64 ((G.field (y + 1) f v).fl (y + 1) q)))
    (hall : ∀ q, q < G.n → W.cell? ⟨h', q, none⟩ = some (if q = y then .slice (some ⟨h, 0, none⟩) (S (G.sh (q + 1))).size k else .slice (some ⟨ρ.fh q, 0, none⟩) (S (G.sh (q + 1))).size (ρ.fhc q))) :
    IsR T S W { ρ with fb := h', fc := k', fh := fun q => if q = y then h else ρ.fh q, fhc := fun q => if q = y then k else ρ.fhc q } (G.field (y + 1) f v) := by
  have H' := H.below hb
  refine ⟨H'.rows, H'.root, H'.shp, fun q hq => ?_, fun q r hq hr => ?_⟩
  · show W.cell? ⟨h', q, none⟩ = some (.slice (some ⟨if q = y then h else ρ.fh q, 0, none⟩) (S (G.sh (q + 1))).size (if q = y then k else ρ.fhc q))
    rw [hall q hq]
    by_cases e : q = y
    · simp only [if_pos e]
    · simp only [if_neg e]
  · show W.cell? ⟨if q = y then h else ρ.fh q, r, none⟩ = _
    by_cases e : q = y
    · subst e
      rw [if_pos rfl]
      exact hrow r hr
    · rw [if_neg e]
      refine (H'.fld q r hq hr).trans ?_
      show _ = some (Value.int .i64 (if q + 1 = y + 1 ∧ r = f then v else G.fl (q + 1) r))
      rw [if_neg (fun k => e (by omega))]

set_option maxRecDepth 100000 in
set_option maxHeartbeats 4000000 in
theorem rField_any (H : IsR T S w ρ G) (hN : G.n ≤ 1000000) (x y f : Nat) (v : Int) (hxy : (x : Int) - 1 = (y : Int)) (hy : y < G.n) (hf : f < (S (G.sh (y + 1))).size) (hS : (S (G.sh (y + 1))).size ≤ 1000000) :
    Calls Try.prog 73 #[rV T sp A len cap ρ G.n, .int .i64 (x : Int), .int .i64 (f : Int), .int .i64 v] w fun e w' => ∃ ρ', e = .returned (rV T sp A len cap ρ' G.n) ∧ IsR T S w' ρ' (G.field (y + 1) f v) ∧ Below w.heap.size w w' ∧ ∀ b, RBlk T S ρ' (G.field (y + 1) f v) b → RBlk T S ρ G b ∨ w.heap.size ≤ b := by
  obtain ⟨i0, hi, hz0, hz1, hz2⟩ := inf_q
  obtain ⟨i1, ki, kz0, kz1, kz2⟩ := inf_qs
  have INT := hide (show _ ∧ _ ∧ _ ∧ _ from ⟨hi, hz0, hz1, hz2⟩)
  have INS := hide (show _ ∧ _ ∧ _ ∧ _ from ⟨ki, kz0, kz1, kz2⟩)
  clear hi hz0 hz1 hz2 ki kz0 kz1 kz2
  have HI := hide H
  clear H
  unfold rV
  have hm0 : 0 < (S (G.sh (y + 1))).size := by omega
  obtain ⟨m, hm⟩ : ∃ m, m = (S (G.sh (y + 1))).size := ⟨_, rfl⟩
  rw [← hm] at hf hS hm0
  have HM := hide hm
  clear hm
  go_enter Try.func73, Try.ntmps73
  go_upto_region 1 with fail
  refine wp_gen ?_
  intro w1 hw1
  have hw1' : [.cells #[.int .i64 (T : Int), .int .i64 sp, .slice A len cap, .slice (some ⟨ρ.rb, 0, none⟩) T ρ.rc, .slice (some ⟨ρ.sb, 0, none⟩) G.n ρ.sc, .slice (some ⟨ρ.fb, 0, none⟩) G.n ρ.fc] 49, .cells #[.int .i64 0, .int .i64 0, .slice none 0 0, .slice none 0 0, .slice none 0 0, .slice none 0 0] 49].foldl World.alloc w = w1 := hw1.symm
  have hB1 := allocs_below [.cells #[.int .i64 (T : Int), .int .i64 sp, .slice A len cap, .slice (some ⟨ρ.rb, 0, none⟩) T ρ.rc, .slice (some ⟨ρ.sb, 0, none⟩) G.n ρ.sc, .slice (some ⟨ρ.fb, 0, none⟩) G.n ρ.fc] 49, .cells #[.int .i64 0, .int .i64 0, .slice none 0 0, .slice none 0 0, .slice none 0 0, .slice none 0 0] 49] w
  have hz1 := allocs_size [.cells #[.int .i64 (T : Int), .int .i64 sp, .slice A len cap, .slice (some ⟨ρ.rb, 0, none⟩) T ρ.rc, .slice (some ⟨ρ.sb, 0, none⟩) G.n ρ.sc, .slice (some ⟨ρ.fb, 0, none⟩) G.n ρ.fc] 49, .cells #[.int .i64 0, .int .i64 0, .slice none 0 0, .slice none 0 0, .slice none 0 0, .slice none 0 0] 49] w
  have hA1 := allocs_at [.cells #[.int .i64 (T : Int), .int .i64 sp, .slice A len cap, .slice (some ⟨ρ.rb, 0, none⟩) T ρ.rc, .slice (some ⟨ρ.sb, 0, none⟩) G.n ρ.sc, .slice (some ⟨ρ.fb, 0, none⟩) G.n ρ.fc] 49, .cells #[.int .i64 0, .int .i64 0, .slice none 0 0, .slice none 0 0, .slice none 0 0, .slice none 0 0] 49] w
  rw [hw1'] at hB1 hz1 hA1
  clear hw1 hw1'
  simp only [List.length_cons, List.length_nil, Nat.zero_add, Nat.reduceAdd] at hz1
  have hz1 := Nat.le_of_eq hz1.symm
  have a0 : w1.heap[w.heap.size]? = _ := hA1 0 _ rfl
  have a1 : w1.heap[w.heap.size + 1]? = _ := hA1 1 _ rfl
  clear hA1
  have H1 := hide ((unhide HI).below hB1)
  have c0 := Lib.cell_of_heap a0 0
  have c1 := Lib.cell_of_heap a0 1
  have c2 := Lib.cell_of_heap a0 2
  have c3 : w1.cell? ⟨w.heap.size, 3, none⟩ = some (.slice (some ⟨ρ.rb, 0, none⟩) T ρ.rc) := Lib.cell_of_heap a0 3
  have c4 := Lib.cell_of_heap a0 4
  have c5 := Lib.cell_of_heap a0 5
  have r0 := (unhide H1).flds y hy
  rw [← unhide HM] at r0
  have g0 : (0 : Int) ≤ (y : Int) := by omega
  have g1 : (y : Int) < (G.n : Int) := by omega
  obtain ⟨xs, hxs⟩ : ∃ xs, xs = (List.range m).map fun f => Value.int .i64 (G.fl (y + 1) f) := ⟨_, rfl⟩
  have HXS := hide hxs
  have hxl : xs.length = m * 1 := by rw [hxs]; simp
  clear hxs
  obtain ⟨hi, hz0, hz1', hz2⟩ := unhide INT
  go_wp2_with (at_builtin; refine wpList_append_own _ rfl (.const (.slice none 0 0)) (.tmp 16) _ rfl w1.heap.size 2 i0 (.int .i64 0) 1 8 Try.underlying89 hi hz0 hz1' hz2 rfl (by decide) _ _ _ rfl (World.ownsRow_nil _ _ _ _) ⟨ρ.fh y, 0, none⟩ m (ρ.fhc y) xs rfl hxl ?c1 ?c2 ?c3 ?c4 ?c5 ?_)
  case c1 => rw [unhide HXS]; exact news_at (fun f hf => (unhide H1).fld y f hy (by rw [← unhide HM]; exact hf))
  case c2 => rw [unhide HXS]; simp [Value.oneCell']
  case c3 => simp only [maxLen]; omega
  case c4 => omega
  case c5 => simp
  intro v9 w2 how hgr _
  obtain ⟨h9, k9, rfl, hb9, hl9, hc9, hf9⟩ := own_form how (by omega)
  have hB2 : Below w1.heap.size w1 w2 := (Below.refl _ _).grown hgr (Nat.le_refl _) (fun r hr => by cases hr)
  have hc9' : ∀ q, q < m → w2.cell? ⟨h9, q, none⟩ = some (.int .i64 (G.fl (y + 1) q)) := fun q hq => hc9 q _ (by show xs[q]? = _; rw [unhide HXS]; exact at_news hq)
  clear how hgr hc9 HXS hxl hi hz0 hz1' hz2 c0 c1 c2 c3 c4 c5 r0
  have f9 := hf9 f
  have x9 := hc9' f hf
  have g2 : (0 : Int) ≤ (f : Int) := by omega
  have g3 : (f : Int) < (m : Int) := by omega
  go_upto_region 3 with fail
  refine wp_gen ?_
  intro w3 hw3
  have hC3 : Chg (fun j => j = h9) w2 w3 := by rw [hw3]; exact (Chg.refl _ _).set1 _
  have h93 : ∀ q, q < m → w3.cell? ⟨h9, q, none⟩ = some (.int .i64 ((G.field (y + 1) f v).fl (y + 1) q)) := fun q hq => by
    rw [hw3]
    show _ = some (Value.int .i64 (if y + 1 = y + 1 ∧ q = f then v else G.fl (y + 1) q))
    by_cases e : q = f
    · subst e
      rw [World.cell?_setCell_same' _ _ _ (by rw [x9]; rfl), if_pos ⟨rfl, rfl⟩]
    · rw [World.cell?_setCell_other _ _ _ _ (fun k => e (by injection k with _ k _; exact k.symm)), if_neg (fun k => e k.2)]
      exact hc9' q hq
  clear hw3 x9 f9 hc9' hf9
  have hs2 := hB2.size
  have hs3 := hC3.size
  have hB3 : Below w1.heap.size w1 w3 := Chg.then_below hB2 hC3 (fun j e => by subst e; omega) hs2
  clear hC3
  have hq3 := hB3.size
  have d0 : w3.heap[w.heap.size]? = _ := (hB3.block _ (by omega)).trans a0
  have d1 : w3.heap[w.heap.size + 1]? = _ := (hB3.block _ (by omega)).trans a1
  have H3 := hide ((unhide H1).below hB3)
  have c0 := Lib.cell_of_heap d0 0
  have c1 := Lib.cell_of_heap d0 1
  have c2 := Lib.cell_of_heap d0 2
  have c3 : w3.cell? ⟨w.heap.size, 3, none⟩ = some (.slice (some ⟨ρ.rb, 0, none⟩) T ρ.rc) := Lib.cell_of_heap d0 3
  have c4 := Lib.cell_of_heap d0 4
  have c5 := Lib.cell_of_heap d0 5
  obtain ⟨ki, kz0, kz1, kz2⟩ := unhide INS
  go_wp2_with (at_builtin; refine wpList_append_own _ rfl (.const (.slice none 0 0)) (.tmp 23) _ rfl w3.heap.size 89 i1 (.slice none 0 0) 1 24 Try.underlying47 ki kz0 kz1 kz2 rfl (by decide) _ _ _ rfl (World.ownsRow_nil _ _ _ _) ⟨ρ.fb, 0, none⟩ G.n ρ.fc ((List.range G.n).map fun x => Value.slice (some ⟨ρ.fh x, 0, none⟩) (S (G.sh (x + 1))).size (ρ.fhc x)) rfl (by simp) ?c1 ?c2 ?c3 ?c4 ?c5 ?_)
  case c1 => exact news_at (fun x hx => (unhide H3).flds x hx)
  case c2 => simp [Value.oneCell']
  case c3 => simp only [maxLen]; omega
  case c4 => omega
  case c5 => simp
  intro v10 w4 how hgr _
  obtain ⟨h10, k10, rfl, hb10, hl10, hc10, hf10⟩ := own_form how (by omega)
  have hB4 : Below w3.heap.size w3 w4 := (Below.refl _ _).grown hgr (Nat.le_refl _) (fun r hr => by cases hr)
  have hc10' : ∀ q, q < G.n → w4.cell? ⟨h10, q, none⟩ = some (.slice (some ⟨ρ.fh q, 0, none⟩) (S (G.sh (q + 1))).size (ρ.fhc q)) := fun q hq => hc10 q _ (at_news hq)
  clear how hgr hc10 ki kz0 kz1 kz2 c0 c1 c2 c3 c4 c5
  have f10 := hf10 y
  have x10 := hc10' y hy
  rw [← unhide HM] at x10
  have e0 : w4.heap[w.heap.size]? = _ := (hB4.block _ (by omega)).trans d0
  have e1 : w4.heap[w.heap.size + 1]? = _ := (hB4.block _ (by omega)).trans d1
  have c0 : w4.cell? ⟨w.heap.size, 0, none⟩ = some (.int .i64 (T : Int)) := Lib.cell_of_heap e0 0
  have c1 : w4.cell? ⟨w.heap.size, 1, none⟩ = some (.int .i64 sp) := Lib.cell_of_heap e0 1
  have c2 : w4.cell? ⟨w.heap.size, 2, none⟩ = some (.slice A len cap) := Lib.cell_of_heap e0 2
  have c3 : w4.cell? ⟨w.heap.size, 3, none⟩ = some (.slice (some ⟨ρ.rb, 0, none⟩) T ρ.rc) := Lib.cell_of_heap e0 3
  have c4 : w4.cell? ⟨w.heap.size, 4, none⟩ = some (.slice (some ⟨ρ.sb, 0, none⟩) G.n ρ.sc) := Lib.cell_of_heap e0 4
  have c5 : w4.cell? ⟨w.heap.size, 5, none⟩ = some (.slice (some ⟨ρ.fb, 0, none⟩) G.n ρ.fc) := Lib.cell_of_heap e0 5
  have b0 : w4.cell? ⟨w.heap.size + 1, 0, none⟩ = some (.int .i64 0) := Lib.cell_of_heap e1 0
  have b1 : w4.cell? ⟨w.heap.size + 1, 1, none⟩ = some (.int .i64 0) := Lib.cell_of_heap e1 1
  have b2 : w4.cell? ⟨w.heap.size + 1, 2, none⟩ = some (.slice none 0 0) := Lib.cell_of_heap e1 2
  have b3 : w4.cell? ⟨w.heap.size + 1, 3, none⟩ = some (.slice none 0 0) := Lib.cell_of_heap e1 3
  have b4 : w4.cell? ⟨w.heap.size + 1, 4, none⟩ = some (.slice none 0 0) := Lib.cell_of_heap e1 4
  have b5 : w4.cell? ⟨w.heap.size + 1, 5, none⟩ = some (.slice none 0 0) := Lib.cell_of_heap e1 5
  have fa : ∀ i, w4.frozen? ⟨w.heap.size, i, none⟩ = false := fun i => by simp [World.frozen?, e0]
  have fb : ∀ i, w4.frozen? ⟨w.heap.size + 1, i, none⟩ = false := fun i => by simp [World.frozen?, e1]
  have hs4 := hB4.size
  have n1 : h10 ≠ w.heap.size := by omega
  have n2 : h10 ≠ w.heap.size + 1 := by omega
  go_wp2_with fail
  refine bodyPost_ret (v := .agg #[.int .i64 (T : Int), .int .i64 sp, .slice A len cap, .slice (some ⟨ρ.rb, 0, none⟩) T ρ.rc, .slice (some ⟨ρ.sb, 0, none⟩) G.n ρ.sc, .slice (some ⟨h10, 0, none⟩) G.n k10]) (by simp only [results, Try.results73]; go_simp) rfl ?_
  generalize hW : World.setCell _ _ _ = W
  have hD : Chg (fun j => j = w.heap.size ∨ j = w.heap.size + 1) (w4.setCell ⟨h10, y, none⟩ (.slice (some ⟨h9, 0, none⟩) m k9)) W := by
    rw [← hW]
    exact ((((((((Chg.refl _ _).set (.inr (.inl rfl)) _).set (.inr (.inr rfl)) _).set (.inr (.inr rfl)) _).set (.inr (.inr rfl)) _).set (.inr (.inr rfl)) _).set (.inr (.inr rfl)) _).set (.inr (.inr rfl)) _)
  clear hW
  have hE : Chg (fun j => j = h10) w4 (w4.setCell ⟨h10, y, none⟩ (.slice (some ⟨h9, 0, none⟩) m k9)) := (Chg.refl _ _).set1 _
  have hze := hE.size
  have hB : Below w.heap.size w W := (hB1.trans ((hB3.trans (hB4.mono hq3)).mono (by omega))).trans (Chg.below (hE.trans' hD) (fun i hi => by rcases hi with rfl | rfl | rfl <;> omega) (by omega))
  refine ⟨_, rfl, (unhide HI).field_of (h := h9) (k := k9) (h' := h10) (k' := k10) hB (fun q hq => ?_) (fun q hq => ?_), hB, ?_⟩
  · exact (hD.cell (by omega) (by omega)).trans ((hE.cell (by omega) (by omega)).trans (cell_below hB4 (h93 q (by rw [unhide HM]; exact hq))))
  · refine (hD.cell (by omega) (by omega)).trans ?_
    by_cases e : q = y
    · subst e
      rw [World.cell?_setCell_same' _ _ _ (by rw [x10]; rfl), if_pos rfl, unhide HM]
    · rw [World.cell?_setCell_other _ _ _ _ (fun k => e (by injection k with _ k _; exact k.symm)), if_neg e]
      exact hc10' q hq
  · rintro b (e | e | e | ⟨q, hq, e⟩ | ⟨q, hq, h0, e⟩)
    · exact .inl (.inl e)
    · exact .inl (.inr (.inl e))
    · exact .inr (by have e : b = h10 := e; omega)
    · exact .inl (.inr (.inr (.inr (.inl ⟨q, hq, e⟩))))
    · have e : b = if q = y then h9 else ρ.fh q := e
      split at e
      · exact .inr (by omega)
      · exact .inl (.inr (.inr (.inr (.inr ⟨q, hq, h0, e⟩))))
end
end Go.Proofs.Ytbkaopeajjechaa

namespace Go.Proofs.Ytbkaopeajjechaa
set_option linter.unusedVariables false
set_option linter.unusedSimpArgs false
open Go.RowKit Go.Maps
section
variable {T : Nat} {sp : Int} {A : Option Addr} {len cap : Nat} {S : Nat → ByteArray} {w : World}

/-- What New lays ahead of its rows, and so many rows. -/
structure NewAt (W : World) (T : Nat) (sp : Int) (A : Option Addr) (len cap m : Nat) (n0 p sb fb fh : Nat) (rv : Value) (k : Nat) (rh : Nat → Nat) : Prop where
  hn0 : n0 ≤ p
  hp : W.heap[p]? = some (.cells #[.int .i64 (T : Int), .int .i64 sp, .slice A len cap, rv, .slice (some ⟨sb, 0, none⟩) 1 1, .slice (some ⟨fb, 0, none⟩) 1 1] 49 (0, 0))
  hsb : W.heap[sb]? = some (.cells #[.int .i64 0] 3 (0, 0))
  hfb : W.heap[fb]? = some (.cells #[.slice (some ⟨fh, 0, none⟩) m m] 89 (0, 0))
  hfh : ∃ mc, W.heap[fh]? = some (.cells mc 2 (0, 0)) ∧ ∀ f, f < m → mc[f]? = some (.int .i64 0)
  hsn : n0 ≤ sb ∧ n0 ≤ fb ∧ n0 ≤ fh ∧ ∀ t, t < k → n0 ≤ rh t
  rows : ∀ t, t < k → W.heap[rh t]? = some (.cells #[.int .i64 1, .int .i64 0, .int .i64 0, .int .i64 0, .int .i64 0, .int .i64 0] 3 (0, 0))
  own : W.ownsRow n0 46 1 rv k ((List.range k).map fun t => .slice (some ⟨rh t, 0, none⟩) 6 6)

theorem NewAt.of {os : List Obj} {w1 : World} {m kp ks kf kh : Nat} {mc : Array Value} (h1 : os[kp]? = some (.cells #[.int .i64 (T : Int), .int .i64 sp, .slice A len cap, .slice none 0 0, .slice (some ⟨w1.heap.size + ks, 0, none⟩) 1 1, .slice (some ⟨w1.heap.size + kf, 0, none⟩) 1 1] 49)) (h2 : os[ks]? = some (.cells #[.int .i64 0] 3)) (h3 : os[kf]? = some (.cells #[.slice (some ⟨w1.heap.size + kh, 0, none⟩) m m] 89)) (h4 : os[kh]? = some (.cells mc 2)) (hm : ∀ f, f < m → mc[f]? = some (.int .i64 0)) :
    NewAt (os.foldl World.alloc w1).drew T sp A len cap m w1.heap.size (w1.heap.size + kp) (w1.heap.size + ks) (w1.heap.size + kf) (w1.heap.size + kh) (.slice none 0 0) 0 (fun _ => 0) ∧ Below w1.heap.size w1 (os.foldl World.alloc w1).drew := by
  have e1 : (os.foldl World.alloc w1).drew.heap[w1.heap.size + kp]? = _ := allocs_at os w1 kp _ h1
  have e2 : (os.foldl World.alloc w1).drew.heap[w1.heap.size + ks]? = _ := allocs_at os w1 ks _ h2
  have e3 : (os.foldl World.alloc w1).drew.heap[w1.heap.size + kf]? = _ := allocs_at os w1 kf _ h3
  have e4 : (os.foldl World.alloc w1).drew.heap[w1.heap.size + kh]? = _ := allocs_at os w1 kh _ h4
  exact ⟨⟨by omega, e1, e2, e3, ⟨mc, e4, hm⟩, ⟨by omega, by omega, by omega, fun t ht => by omega⟩, fun t ht => by omega, World.ownsRow_nil _ _ _ _⟩, (allocs_below os w1).drew⟩

theorem meet4 {W : World} {m n0 p sb fb fh : Nat} {rv v : Value} (hv : v = .pointer (some ⟨p, 0, none⟩)) {w1 : World} (h : NewAt W T sp A len cap m n0 p sb fb fh rv 0 (fun _ => 0) ∧ Below w1.heap.size w1 W) : ∃ p sb fb fh, v = .pointer (some ⟨p, 0, none⟩) ∧ Hid (NewAt W T sp A len cap m n0 p sb fb fh rv 0 (fun _ => 0)) ∧ Hid (Below w1.heap.size w1 W) := ⟨_, _, _, _, hv, hide h.1, hide h.2⟩

/-- A row more. -/
theorem NewAt.more {W w2 : World} {m n0 p sb fb fh k : Nat} {rv v : Value} {rh : Nat → Nat} (h : NewAt W T sp A len cap m n0 p sb fb fh rv k rh)
    (ho : w2.ownsRow n0 46 1 v (k + 1) (((List.range k).map fun t => Value.slice (some ⟨rh t, 0, none⟩) 6 6) ++ [.slice (some ⟨W.heap.size, 0, none⟩) 6 6]))
    (hg : ((W.alloc (.cells #[.int .i64 1, .int .i64 0, .int .i64 0, .int .i64 0, .int .i64 0, .int .i64 0] 3)).alloc (.cells #[.slice (some ⟨W.heap.size, 0, none⟩) 6 6] 46)).grownBy w2 rv.ownBlock) :
    w2.heap[p]? = some (.cells #[.int .i64 (T : Int), .int .i64 sp, .slice A len cap, rv, .slice (some ⟨sb, 0, none⟩) 1 1, .slice (some ⟨fb, 0, none⟩) 1 1] 49 (0, 0)) ∧ NewAt (w2.setCell ⟨p, 3, none⟩ v) T sp A len cap m n0 p sb fb fh v (k + 1) (fun t => if t = k then W.heap.size else rh t) := by
  have hob : ∀ r, rv.ownBlock = some r → n0 ≤ r ∧ ∃ cur, W.heap[r]? = some (Obj.cells cur 46 (0, 0)) := fun r hr => ⟨(h.own.lt r hr).1, own_type h.own r hr⟩
  have hkeep : ∀ (b : Nat) c t, W.heap[b]? = some (Obj.cells c t (0, 0)) → t ≠ 46 → w2.heap[b]? = some (Obj.cells c t (0, 0)) := fun b c t hb ht => by
    have hl := (Array.getElem?_eq_some_iff.1 hb).1
    refine (hg.block b (by simp; omega) (fun e => ?_)).trans ?_
    · obtain ⟨_, cur, hc⟩ := hob b e.symm
      rw [hb] at hc
      cases hc
      exact ht rfl
    · rw [heap_alloc_old _ _ _ (by simp; omega), heap_alloc_old _ _ _ hl]
      exact hb
  have hp2 := hkeep p _ _ h.hp (by decide)
  have hset : ∀ (b : Nat) c t, w2.heap[b]? = some (Obj.cells c t (0, 0)) → t ≠ 49 → (w2.setCell ⟨p, 3, none⟩ v).heap[b]? = some (Obj.cells c t (0, 0)) := fun b c t hb ht =>
    (Below.heap_setCell w2 ⟨p, 3, none⟩ v b (fun e => by
      have e : b = p := e
      subst e
      rw [hp2] at hb
      cases hb
      exact ht rfl)).trans hb
  obtain ⟨mc, hmc, hmz⟩ := h.hfh
  refine ⟨hp2, h.hn0, ?_, hset _ _ _ (hkeep _ _ _ h.hsb (by decide)) (by decide), hset _ _ _ (hkeep _ _ _ h.hfb (by decide)) (by decide), ⟨mc, hset _ _ _ (hkeep _ _ _ hmc (by decide)) (by decide), hmz⟩, ⟨h.hsn.1, h.hsn.2.1, h.hsn.2.2.1, fun t ht => by
    have h1 := h.hn0
    have h2 := (Array.getElem?_eq_some_iff.1 h.hp).1
    split
    · omega
    · exact h.hsn.2.2.2 t (by omega)⟩, fun t ht => ?_, ?_⟩
  · exact (heap_setCell_same w2 p 3 _ _ v hp2).trans rfl
  · by_cases e : t = k
    · subst e
      rw [if_pos rfl]
      refine hset _ _ _ ((hg.block _ (by simp; omega) (fun e => ?_)).trans ?_) (by decide)
      · have := (h.own.lt _ e.symm).2
        omega
      · rw [heap_alloc_old _ _ _ (by simp)]
        exact heap_alloc_new _ _
    · rw [if_neg e]
      exact hset _ _ _ (hkeep _ _ _ (h.rows t (by omega)) (by decide)) (by decide)
  · have ho' : w2.ownsRow n0 46 1 v (k + 1) ((List.range (k + 1)).map fun t => Value.slice (some ⟨if t = k then W.heap.size else rh t, 0, none⟩) 6 6) := by
      rw [List.range_succ, List.map_append, List.map_cons, List.map_nil, if_pos rfl]
      have : ((List.range k).map fun t => Value.slice (some ⟨if t = k then W.heap.size else rh t, 0, none⟩) 6 6) = (List.range k).map fun t => Value.slice (some ⟨rh t, 0, none⟩) 6 6 := List.map_congr_left (fun t ht => by
        have := List.mem_range.1 ht
        rw [if_neg (by omega)])
      rw [this]
      exact ho
    refine ho'.kept (row := some p) (set_grown _ _ _ _) (.inr (fun e => ?_))
    obtain ⟨cur, hc⟩ := own_type ho' p e
    rw [hp2] at hc
    cases hc

set_option maxRecDepth 100000 in
set_option maxHeartbeats 4000000 in
theorem rNew_any (H : ShOk w A len S) (hl : 1 ≤ len) (hS : (S 0).size ≤ 8) (hlen : len ≤ 1000000) (hT0 : 1 ≤ T) (hT : T ≤ 8) :
    Calls Try.prog 17 #[.agg #[.int .i64 (T : Int), .int .i64 sp, .slice A len cap]] w fun e w' => ∃ ρ, e = .returned (rV T sp A len cap ρ 1) ∧ IsR T S w' ρ Gr.new ∧ Below w.heap.size w w' ∧ ∀ b, RBlk T S ρ Gr.new b → w.heap.size ≤ b := by
  obtain ⟨ga, oa, rfl, hgl, hcs⟩ := H (by omega)
  obtain ⟨i1, ki, kz0, kz1, kz2⟩ := inf_is
  have INS := hide (show _ ∧ _ ∧ _ ∧ _ from ⟨ki, kz0, kz1, kz2⟩)
  have hc0 := hcs 0 (by omega)
  rw [Nat.add_zero] at hc0
  clear ki kz0 kz1 kz2 hcs
  obtain ⟨s0, hs0⟩ : ∃ s, s = S 0 := ⟨_, rfl⟩
  rw [← hs0] at hc0 hS
  have HSZ : Hid (s0.size = (S (Gr.new.sh (0 + 1))).size) := hide (by rw [hs0]; rfl)
  clear hs0
  obtain ⟨i2, mi, mz0, mz1, mz2⟩ := inf_q
  obtain ⟨mc, hmc⟩ : ∃ mc, mc = madeCells (Value.int .i64 0).cells (s0.size * 1) := ⟨_, rfl⟩
  have hmk : ∀ W, (Instr.makeSlice 89 (.int .i64 (s0.size : Int)) (.int .i64 (s0.size : Int))).run Try.prog W = .ok (.slice (some ⟨W.heap.size, 0, none⟩) s0.size s0.size) (W.alloc (.cells mc 2)) := fun W => by
    rw [run_make_rowN (P := Try.prog) 89 2 i2 _ Try.underlying89 mi mz0 .i64 .i64 s0.size s0.size (Nat.le_refl _) (by rw [mz2]; omega) (by omega) W, mz1, hmc]
  have hmcs : ∀ f, f < s0.size → mc[f]? = some (.int .i64 0) := fun f hf => by
    rw [hmc, Nat.mul_one]
    show (madeCells #[Value.int .i64 0] s0.size)[f]? = _
    rw [← Array.getElem?_toList, toList_madeCells_one, List.getElem?_replicate, if_pos hf]
  have HMC := hide hmcs
  clear hmc hmcs mi mz0 mz1 mz2
  unfold rV
  go_enter Try.func17, Try.ntmps17
  have g0 : (0 : Int) < (len : Int) := by omega
  have g0' : 0 < len := by omega
  have g1 : (0 : Int) ≤ (s0.size : Int) := by omega
  have g2 : (s0.size : Int) ≤ 8 := by omega
  go_upto_region 1 with fail
  refine wp_gen ?_
  intro w1 hw1
  have hw1' : [.cells #[.int .i64 (T : Int), .int .i64 sp, .slice (some ⟨ga, oa, none⟩) len cap] 24, .cells #[.int .i64 0, .int .i64 0, .slice none 0 0, .slice none 0 0, .slice none 0 0, .slice none 0 0] 49].foldl World.alloc w = w1 := hw1.symm
  have hB1 := allocs_below [.cells #[.int .i64 (T : Int), .int .i64 sp, .slice (some ⟨ga, oa, none⟩) len cap] 24, .cells #[.int .i64 0, .int .i64 0, .slice none 0 0, .slice none 0 0, .slice none 0 0, .slice none 0 0] 49] w
  have hz1 := allocs_size [.cells #[.int .i64 (T : Int), .int .i64 sp, .slice (some ⟨ga, oa, none⟩) len cap] 24, .cells #[.int .i64 0, .int .i64 0, .slice none 0 0, .slice none 0 0, .slice none 0 0, .slice none 0 0] 49] w
  have hA1 := allocs_at [.cells #[.int .i64 (T : Int), .int .i64 sp, .slice (some ⟨ga, oa, none⟩) len cap] 24, .cells #[.int .i64 0, .int .i64 0, .slice none 0 0, .slice none 0 0, .slice none 0 0, .slice none 0 0] 49] w
  rw [hw1'] at hB1 hz1 hA1
  clear hw1 hw1'
  simp only [List.length_cons, List.length_nil, Nat.zero_add, Nat.reduceAdd] at hz1
  have hz1' := Nat.le_of_eq hz1.symm
  clear hz1
  have hz1 := hz1'
  clear hz1'
  have a0 : w1.heap[w.heap.size]? = _ := hA1 0 _ rfl
  have a1 : w1.heap[w.heap.size + 1]? = _ := hA1 1 _ rfl
  clear hA1
  have c0 : w1.cell? ⟨w.heap.size, 0, none⟩ = some (.int .i64 (T : Int)) := Lib.cell_of_heap a0 0
  have c1 : w1.cell? ⟨w.heap.size, 1, none⟩ = some (.int .i64 sp) := Lib.cell_of_heap a0 1
  have c2 : w1.cell? ⟨w.heap.size, 2, none⟩ = some (.slice (some ⟨ga, oa, none⟩) len cap) := Lib.cell_of_heap a0 2
  have c3 : w1.cell? ⟨ga, oa, none⟩ = some (.string s0) := cell_below hB1 hc0
  have hlw : w.heap.size < w1.heap.size := by omega
  have hlg : ga < w1.heap.size := by omega
  go_cut [3] (fun s3 wx => ∃ p sb fb fh, s3 = .pointer (some ⟨p, 0, none⟩) ∧ Hid (NewAt wx T sp (some ⟨ga, oa, none⟩) len cap s0.size w1.heap.size p sb fb fh (.slice none 0 0) 0 (fun _ => 0)) ∧ Hid (Below w1.heap.size w1 wx))
  case first =>
    go_region_held3 (fun W => Below w1.heap.size w1 W ∧ W.cell? ⟨w.heap.size, 0, none⟩ = some (.int .i64 (T : Int)) ∧ W.cell? ⟨w.heap.size, 1, none⟩ = some (.int .i64 sp) ∧ W.cell? ⟨w.heap.size, 2, none⟩ = some (.slice (some ⟨ga, oa, none⟩) len cap) ∧ W.cell? ⟨ga, oa, none⟩ = some (.string s0)) (((refine and_dep ?_ (fun hkq => ⟨(hkq.cell (p := ⟨w.heap.size, 0, none⟩) hlw).trans c0, (hkq.cell (p := ⟨w.heap.size, 1, none⟩) hlw).trans c1, (hkq.cell (p := ⟨w.heap.size, 2, none⟩) hlw).trans c2, (hkq.cell (p := ⟨ga, oa, none⟩) hlg).trans c3⟩)); repeat (first | exact Below.refl _ _ | assumption | refine Below.alloc ?_ (by first | (simp; done) | (simp; omega) | omega) _ | refine Below.setCell ?_ (by first | (simp; done) | (simp; omega) | omega) _ | apply Below.drew | refine Below.trans ?_ (Below.mono (by assumption) (by first | (simp; done) | (simp; omega) | omega))))) (fail)
    all_goals go_wp2_with fail
    all_goals go_meet
    · exact meet4 rfl (NewAt.of (os := [_, _, _, _]) (kp := 3) (ks := 0) (kf := 2) (kh := 1) rfl rfl rfl rfl (unhide HMC))
    · exact meet4 rfl (NewAt.of (os := [_, _, _, _]) (kp := 2) (ks := 0) (kf := 3) (kh := 1) rfl rfl rfl rfl (unhide HMC))
    · exact meet4 rfl (NewAt.of (os := [_, _, _, _]) (kp := 1) (ks := 0) (kf := 3) (kh := 2) rfl rfl rfl rfl (unhide HMC))
    · exact meet4 rfl (NewAt.of (os := [_, _, _, _]) (kp := 3) (ks := 1) (kf := 2) (kh := 0) rfl rfl rfl rfl (unhide HMC))
    · exact meet4 rfl (NewAt.of (os := [_, _, _, _]) (kp := 2) (ks := 1) (kf := 3) (kh := 0) rfl rfl rfl rfl (unhide HMC))
    · exact meet4 rfl (NewAt.of (os := [_, _, _, _]) (kp := 3) (ks := 2) (kf := 1) (kh := 0) rfl rfl rfl rfl (unhide HMC))
    · exact meet4 rfl (NewAt.of (os := [_, _, _, _]) (kp := 2) (ks := 3) (kf := 1) (kh := 0) rfl rfl rfl rfl (unhide HMC))
    · first | exact meet4 rfl (NewAt.of (os := [_, _, _, _]) (kp := 1) (ks := 2) (kf := 3) (kh := 0) rfl rfl rfl rfl (unhide HMC)) | exact meet4 rfl (NewAt.of (os := [_, _, _, _]) (kp := 1) (ks := 3) (kf := 2) (kh := 0) rfl rfl rfl rfl (unhide HMC))
    · first | exact meet4 rfl (NewAt.of (os := [_, _, _, _]) (kp := 1) (ks := 2) (kf := 3) (kh := 0) rfl rfl rfl rfl (unhide HMC)) | exact meet4 rfl (NewAt.of (os := [_, _, _, _]) (kp := 1) (ks := 3) (kf := 2) (kh := 0) rfl rfl rfl rfl (unhide HMC))
    · first | exact meet4 rfl (NewAt.of (os := [_, _, _, _]) (kp := 0) (ks := 1) (kf := 3) (kh := 2) rfl rfl rfl rfl (unhide HMC)) | exact meet4 rfl (NewAt.of (os := [_, _, _, _]) (kp := 0) (ks := 2) (kf := 3) (kh := 1) rfl rfl rfl rfl (unhide HMC)) | exact meet4 rfl (NewAt.of (os := [_, _, _, _]) (kp := 0) (ks := 3) (kf := 2) (kh := 1) rfl rfl rfl rfl (unhide HMC))
    · first | exact meet4 rfl (NewAt.of (os := [_, _, _, _]) (kp := 0) (ks := 1) (kf := 3) (kh := 2) rfl rfl rfl rfl (unhide HMC)) | exact meet4 rfl (NewAt.of (os := [_, _, _, _]) (kp := 0) (ks := 2) (kf := 3) (kh := 1) rfl rfl rfl rfl (unhide HMC)) | exact meet4 rfl (NewAt.of (os := [_, _, _, _]) (kp := 0) (ks := 3) (kf := 2) (kh := 1) rfl rfl rfl rfl (unhide HMC))
    · first | exact meet4 rfl (NewAt.of (os := [_, _, _, _]) (kp := 0) (ks := 1) (kf := 3) (kh := 2) rfl rfl rfl rfl (unhide HMC)) | exact meet4 rfl (NewAt.of (os := [_, _, _, _]) (kp := 0) (ks := 2) (kf := 3) (kh := 1) rfl rfl rfl rfl (unhide HMC)) | exact meet4 rfl (NewAt.of (os := [_, _, _, _]) (kp := 0) (ks := 3) (kf := 2) (kh := 1) rfl rfl rfl rfl (unhide HMC))
  case rest =>
    obtain ⟨p, sb, fb, fh, rfl, HN, HB⟩ := hcut
    clear c0 c1 c2 c3 g1 g2 g0 g0' hmk HMC hc0
    go_wp2
    go_loopw [4] (fun i wr => ∃ k : Nat, k ≤ T ∧ i = .int .i64 k ∧ ∃ rv rh, Hid (NewAt wr T sp (some ⟨ga, oa, none⟩) len cap s0.size w1.heap.size p sb fb fh rv k rh) ∧ Hid (Below w1.heap.size w1 wr)) (fun i _ => T - (intOf i).toNat)
    case atStart => exact ⟨0, Nat.zero_le _, rfl, _, _, HN, HB⟩
    case round =>
      obtain ⟨k, hk, rfl, rv, rh, HN2, HB2⟩ := hrel
      clear HN HB
      have hw1 := (unhide HB2).size
      have b0 : wr.heap[w.heap.size]? = _ := ((unhide HB2).block _ (by omega)).trans a0
      have b1 : wr.heap[w.heap.size + 1]? = _ := ((unhide HB2).block _ (by omega)).trans a1
      have hp := (unhide HN2).hp
      have hpl := (Array.getElem?_eq_some_iff.1 hp).1
      have hpn := (unhide HN2).hn0
      have c0 : wr.cell? ⟨w.heap.size, 0, none⟩ = some (.int .i64 (T : Int)) := Lib.cell_of_heap b0 0
      have p3 : wr.cell? ⟨p, 3, none⟩ = some rv := Lib.cell_of_heap hp 3
      by_cases hlt : k < T
      · have g1 : (k : Int) < (T : Int) := by omega
        obtain ⟨ki, kz0, kz1, kz2⟩ := unhide INS
        go_wp2_with (at_builtin; refine wpList_append_own _ rfl (.tmp 22) (.tmp 24) _ rfl w1.heap.size 46 i1 (.slice none 0 0) 1 24 Try.underlying45 ki kz0 kz1 kz2 rfl (by decide) _ _ _ rfl (((unhide HN2).own.alloc _).alloc _) ⟨wr.heap.size + 1, 0, none⟩ 1 1 [.slice (some ⟨wr.heap.size, 0, none⟩) 6 6] rfl rfl ?c1 ?c2 ?c3 ?c4 ?c5 ?_)
        case c1 =>
          intro j u h
          match j, h with
          | 0, h =>
            simp only [List.getElem?_cons_zero, Option.some.injEq] at h
            subst h
            exact Lib.cell_of_heap (show _ = some (Obj.cells #[Value.slice (some ⟨wr.heap.size, 0, none⟩) 6 6] 46 (0, 0)) by rw [← World.size_alloc wr (.cells #[.int .i64 1, .int .i64 0, .int .i64 0, .int .i64 0, .int .i64 0, .int .i64 0] 3)]; exact heap_alloc_new _ _) 0
        case c2 => simp [Value.oneCell']
        case c3 => simp only [maxLen]; omega
        case c4 => omega
        case c5 => simp; omega
        intro v w4 how hgr _
        obtain ⟨g9, c9, rfl, -⟩ := own_form how (by omega)
        obtain ⟨hp4, hn4⟩ := (unhide HN2).more how hgr
        have HN4 := hide hn4
        have q3 : w4.cell? ⟨p, 3, none⟩ = some rv := Lib.cell_of_heap hp4 3
        have qf : w4.frozen? ⟨p, 3, none⟩ = false := by simp [World.frozen?, hp4]
        have hb4 : Below w1.heap.size w1 w4 := ((((unhide HB2).alloc hw1 _).alloc (by simp; omega) _).grown hgr (by simp; omega) (fun r hr => ((unhide HN2).own.lt r hr).1))
        have hz4 := hb4.size
        have HB4 := hide (Below.setCell hb4 (show w1.heap.size ≤ (⟨p, 3, none⟩ : Addr).block from hpn) (.slice (some ⟨g9, 0, none⟩) (k + 1) c9))
        clear how hgr hn4 hp4 HN2 HB2 hp b0 b1 c0 p3 ki kz0 kz1 kz2
        go_wp2
        go_roundw
        case measure => simp [intOf]; omega
        case rel => exact ⟨k + 1, by omega, by go_num, _, _, HN4, HB4⟩
      · have g2 : ¬ (k : Int) < (T : Int) := by omega
        obtain rfl : k = T := by omega
        have p0 : wr.cell? ⟨p, 0, none⟩ = some (.int .i64 (k : Int)) := Lib.cell_of_heap hp 0
        have p1 : wr.cell? ⟨p, 1, none⟩ = some (.int .i64 sp) := Lib.cell_of_heap hp 1
        have p2 : wr.cell? ⟨p, 2, none⟩ = some (.slice (some ⟨ga, oa, none⟩) len cap) := Lib.cell_of_heap hp 2
        have p4 : wr.cell? ⟨p, 4, none⟩ = some (.slice (some ⟨sb, 0, none⟩) 1 1) := Lib.cell_of_heap hp 4
        have p5 : wr.cell? ⟨p, 5, none⟩ = some (.slice (some ⟨fb, 0, none⟩) 1 1) := Lib.cell_of_heap hp 5
        have q0 : wr.cell? ⟨w.heap.size + 1, 0, none⟩ = some (.int .i64 0) := Lib.cell_of_heap b1 0
        have q1 : wr.cell? ⟨w.heap.size + 1, 1, none⟩ = some (.int .i64 0) := Lib.cell_of_heap b1 1
        have q2 : wr.cell? ⟨w.heap.size + 1, 2, none⟩ = some (.slice none 0 0) := Lib.cell_of_heap b1 2
        have q3 : wr.cell? ⟨w.heap.size + 1, 3, none⟩ = some (.slice none 0 0) := Lib.cell_of_heap b1 3
        have q4 : wr.cell? ⟨w.heap.size + 1, 4, none⟩ = some (.slice none 0 0) := Lib.cell_of_heap b1 4
        have q5 : wr.cell? ⟨w.heap.size + 1, 5, none⟩ = some (.slice none 0 0) := Lib.cell_of_heap b1 5
        have qf : ∀ i, wr.frozen? ⟨w.heap.size + 1, i, none⟩ = false := fun i => by simp [World.frozen?, b1]
        have hrow : ∃ h0 rc, rv = .slice (some ⟨h0, 0, none⟩) k rc ∧ w1.heap.size ≤ h0 ∧ ∀ t, t < k → wr.cell? ⟨h0, t, none⟩ = some (.slice (some ⟨rh t, 0, none⟩) 6 6) := by
          obtain ⟨g, c, e1, e2, e3, e4, e5⟩ := own_form (unhide HN2).own (by omega)
          exact ⟨g, c, e1, e2, fun t ht => e4 t _ (at_news ht)⟩
        obtain ⟨h0, rc, rfl, hh0, hrc⟩ := hrow
        have HRC := hide hrc
        clear hrc
        go_wp2
        refine bodyPost_ret (v := .agg #[.int .i64 (k : Int), .int .i64 sp, .slice (some ⟨ga, oa, none⟩) len cap, .slice (some ⟨h0, 0, none⟩) k rc, .slice (some ⟨sb, 0, none⟩) 1 1, .slice (some ⟨fb, 0, none⟩) 1 1]) (by simp only [results, Try.results17]; go_simp) rfl ?_
        generalize hW : World.setCell _ _ _ = W
        have hD : Chg (fun j => j = w.heap.size + 1) wr W := by
          rw [← hW]
          exact (((((((Chg.refl _ _).set1 _).set1 _).set1 _).set1 _).set1 _).set1 _)
        clear hW
        have hne : ∀ (b : Nat) c t, wr.heap[b]? = some (Obj.cells c t (0, 0)) → t ≠ 49 → W.heap[b]? = some (Obj.cells c t (0, 0)) := fun b c t hb ht => (hD.block b (Array.getElem?_eq_some_iff.1 hb).1 (fun e => by
          have e : b = w.heap.size + 1 := e
          subst e
          rw [b1] at hb
          cases hb
          exact ht rfl)).trans hb
        have hB : Below w.heap.size w W := (hB1.trans ((unhide HB2).mono (by omega))).trans (Chg.below hD (fun i hi => by have hi : i = w.heap.size + 1 := hi; omega) (by omega))
        obtain ⟨mc, hm1, hm2⟩ := (unhide HN2).hfh
        refine ⟨⟨h0, rc, rh, fun _ => 6, sb, 1, fb, 1, fun _ => fh, fun _ => s0.size⟩, rfl, ⟨fun t ht => ?_, fun t s ht hs => ?_, fun x hx => ?_, fun x hx => ?_, fun x f hx hf => ?_⟩, hB, ?_⟩
        · exact (hD.cell (block_lt (unhide HRC t ht)) (by show ¬ h0 = w.heap.size + 1; omega)).trans (unhide HRC t ht)
        · refine (Lib.cell_of_heap (hne _ _ _ ((unhide HN2).rows t ht) (by decide)) s).trans ?_
          obtain rfl | rfl | rfl | rfl | rfl | rfl : s = 0 ∨ s = 1 ∨ s = 2 ∨ s = 3 ∨ s = 4 ∨ s = 5 := by omega
          all_goals rfl
        · obtain rfl : x = 0 := by have hx : x < 1 := hx; omega
          exact Lib.cell_of_heap (hne _ _ _ (unhide HN2).hsb (by decide)) 0
        · obtain rfl : x = 0 := by have hx : x < 1 := hx; omega
          refine (Lib.cell_of_heap (hne _ _ _ (unhide HN2).hfb (by decide)) 0).trans ?_
          rw [unhide HSZ]
          rfl
        · obtain rfl : x = 0 := by have hx : x < 1 := hx; omega
          refine (Lib.cell_of_heap (hne _ _ _ hm1 (by decide)) f).trans (hm2 f (by rw [unhide HSZ]; exact hf))
        · obtain ⟨n1, n2, n3, n4⟩ := (unhide HN2).hsn
          rintro b (e | e | e | ⟨t, ht, e⟩ | ⟨x, hx, hx0, e⟩)
          · have e : b = h0 := e
            omega
          · have e : b = sb := e
            omega
          · have e : b = fb := e
            omega
          · have e : b = rh t := e
            have := n4 t ht
            omega
          · have e : b = fh := e
            omega
end
end Go.Proofs.Ytbkaopeajjechaa
