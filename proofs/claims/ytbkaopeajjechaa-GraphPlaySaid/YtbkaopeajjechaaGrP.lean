/- The walks of package graph: a new object, alloc. -/
import Derived.Test.YtbkaopeajjechaaGrO
namespace Go.Proofs.Ytbkaopeajjechaa
set_option linter.unusedVariables false
set_option linter.unusedSimpArgs false
open Go.RowKit Go.Maps

theorem isCells_new (W : World) (c : Array Value) (t : TypeId) : IsCells (W.alloc (.cells c t)) W.heap.size := ⟨c, t, (MapKept.heap_alloc W _).1⟩
theorem isCells_at (W : World) (c : Array Value) (t : TypeId) (k : Nat) (hk : k = W.heap.size) : IsCells (W.alloc (.cells c t)) k := hk ▸ isCells_new W c t
theorem isCells_drew {W : World} {a : Nat} (h : IsCells W a) : IsCells W.drew a := h

/-- Blocks laid: the field's row that was laid first or second. -/
theorem made_at (W : World) (z : Value) (n : Nat) (t : TypeId) (k : Nat) (hk : k = W.heap.size) (i : Nat) (hi : i < n) : (W.alloc (.cells (madeCells #[z] n) t)).cell? ⟨k, i, none⟩ = some z ∧ (W.alloc (.cells (madeCells #[z] n) t)).frozen? ⟨k, i, none⟩ = false := by
  subst hk
  exact ⟨made_cell W z n t i hi, by simp⟩
theorem at_alloc {W : World} {k i : Nat} {v : Value} {b : Bool} (h : W.cell? ⟨k, i, none⟩ = some v ∧ W.frozen? ⟨k, i, none⟩ = b) (o : Obj) : (W.alloc o).cell? ⟨k, i, none⟩ = some v ∧ (W.alloc o).frozen? ⟨k, i, none⟩ = b := by
  have hl := block_lt h.1
  have hb : Below W.heap.size W (W.alloc o) := (Below.refl _ _).alloc (Nat.le_refl _) o
  exact ⟨(hb.cell hl).trans h.1, (hb.frozen hl).trans h.2⟩

set_option maxRecDepth 100000 in
set_option maxHeartbeats 4000000 in
theorem made_any {len : Nat} {S : Nat → ByteArray} (A : Option Addr) (cap : Nat) (tv sp : Int) (s : Nat) (w : World) (H : ShOk w A len S) (hs : s < len) (h8 : (S s).size ≤ 8) (hl : len ≤ 16) :
    Calls Try.prog 30 #[.agg #[.int .i64 tv, .int .i64 sp, .slice A len cap], .int .i64 (s : Int)] w fun e w' => (∃ a hb ib hc ic, e = .returned (.pointer (some ⟨a, 0, none⟩)) ∧ NewObj w.heap.size w' a hb ib hc ic s (S s).size) ∧ Below w.heap.size w w' := by
  obtain ⟨i0, hi, hz0, hz1, hz2⟩ : ∃ i : TypeInfo, Try.prog.info? 71 = some i ∧ i.zero = some (.pointer none) ∧ i.size = 1 ∧ i.bytes = 8 := ⟨_, rfl, rfl, rfl, rfl⟩
  obtain ⟨j0, ki, kz0, kz1, kz2⟩ : ∃ i : TypeInfo, Try.prog.info? 2 = some i ∧ i.zero = some (.int .i64 0) ∧ i.size = 1 ∧ i.bytes = 8 := ⟨_, rfl, rfl, rfl, rfl⟩
  obtain ⟨g, o, rfl, hg, hcs⟩ := H (by omega)
  have hc := hcs s hs
  clear hcs H
  generalize S s = q at *
  have hmk := fun W => run_make_rowN (P := Try.prog) 88 71 i0 _ Try.underlying88 hi hz0 .i64 .i64 q.size q.size (Nat.le_refl _) (by rw [hz2]; omega) (by omega) W
  have hmk2 := fun W => run_make_rowN (P := Try.prog) 89 2 j0 _ Try.underlying89 ki kz0 .i64 .i64 q.size q.size (Nat.le_refl _) (by rw [kz2]; omega) (by omega) W
  rw [hz1] at hmk
  rw [kz1] at hmk2
  simp only [Value.cells, Nat.mul_one] at hmk hmk2
  have b0 : (0 : Int) ≤ (s : Int) := by omega
  have b1 : (s : Int) < (len : Int) := by omega
  go_enter Try.func30, Try.ntmps30
  go_wp2
  go_region
  · go_wp2
    go_ret
    refine ⟨⟨_, w.heap.size + 1, w.heap.size + 1 + 1, q.size, q.size, rfl, ⟨by omega, by simp <;> omega, ?_, by go_simp, by go_simp, by go_simp, fun f hf => ?_, fun f hf => ?_⟩⟩, by repeat (first | exact Below.refl _ _ | assumption | refine Below.alloc ?_ (by first | (simp; done) | (simp; omega) | omega) _ | refine Below.setCell ?_ (by first | (simp; done) | (simp; omega) | omega) _ | apply Below.drew | refine Below.trans ?_ (Below.mono (by assumption) (by first | (simp; done) | (simp; omega) | omega)))⟩
    · exact isCells_at _ _ _ _ (by simp)
    · exact at_alloc (at_alloc (made_at _ _ _ _ _ (by simp) f hf) _) _
    · exact at_alloc (made_at _ _ _ _ _ (by simp) f hf) _
  · go_wp2
    go_ret
    refine ⟨⟨_, w.heap.size + 1 + 1, w.heap.size + 1, q.size, q.size, rfl, ⟨by omega, by simp <;> omega, ?_, by go_simp, by go_simp, by go_simp, fun f hf => ?_, fun f hf => ?_⟩⟩, by repeat (first | exact Below.refl _ _ | assumption | refine Below.alloc ?_ (by first | (simp; done) | (simp; omega) | omega) _ | refine Below.setCell ?_ (by first | (simp; done) | (simp; omega) | omega) _ | apply Below.drew | refine Below.trans ?_ (Below.mono (by assumption) (by first | (simp; done) | (simp; omega) | omega)))⟩
    · exact isCells_at _ _ _ _ (by simp)
    · exact at_alloc (made_at _ _ _ _ _ (by simp) f hf) _
    · exact at_alloc (at_alloc (made_at _ _ _ _ _ (by simp) f hf) _) _

/-- Another layout of the same graph, grown by new blocks. -/
structure Lay.Ext (L L' : Lay) (n0 : Nat) : Prop where
  g : L'.g = L.g
  rb : L'.rb = L.rb
  sh : L'.shA = L.shA ∧ L'.shcap = L.shcap
  own : ∀ b, L'.own b → L.own b ∨ n0 ≤ b
  sub : ∀ b, L.own b → L'.own b

theorem Lay.Ext.refl (L : Lay) (n : Nat) : Lay.Ext L L n := ⟨rfl, rfl, ⟨rfl, rfl⟩, fun _ h => .inl h, fun _ h => h⟩

section
variable {T : Nat} {sp : Int} {len : Nat} {S : Nat → ByteArray} {w : World} {L : Lay} {G : Gr} {md : Int}

theorem Lay.ext_add {n0 x a hb ib hc ic : Nat} (h : ∀ b, L.own b → b < n0) (ha : n0 ≤ a) (hh : n0 ≤ hb) (hi : n0 ≤ ib) : Lay.Ext L (L.add x a hb ib hc ic) n0 := ⟨rfl, rfl, ⟨rfl, rfl⟩, fun b hb' => by
  have hb' : (if b = a then Tg.ob x else if b = hb then .he x else if b = ib then .it x else L.tag b) ≠ .no := hb'
  by_cases e1 : b = a
  · right; omega
  by_cases e2 : b = hb
  · right; omega
  by_cases e3 : b = ib
  · right; omega
  rw [if_neg e1, if_neg e2, if_neg e3] at hb'
  exact .inl hb', fun b hb' => by
  have := h b hb'
  show (if b = a then Tg.ob x else if b = hb then .he x else if b = ib then .it x else L.tag b) ≠ .no
  rw [if_neg (by omega), if_neg (by omega), if_neg (by omega)]
  exact hb'⟩

theorem IsG.offs {W : World} (hW : IsG T sp len S W L G md) {b i : Nat} (v : Value) (hb : ¬ L.own b) (hs : ∀ c, L.shA = some c → c.block ≠ b) : IsG T sp len S (W.setCell ⟨b, i, none⟩ v) L G md :=
  hW.keep (Z := fun c => c = b) ((Chg.refl _ _).set1 _) (fun c hc e => hb (e ▸ hc)) hs
theorem IsG.offs3 {W : World} (hW : IsG T sp len S W L G md) {b : Nat} (x y v : Value) (hb : ¬ L.own b) (hs : ∀ c, L.shA = some c → c.block ≠ b) :
    IsG T sp len S (((W.setCell ⟨b, 0, none⟩ x).setCell ⟨b, 1, none⟩ y).setCell ⟨b, 2, none⟩ v) L G md := ((hW.offs _ hb hs).offs _ hb hs).offs _ hb hs

theorem ShOk.chg {Z : Nat → Prop} {W : World} {A : Option Addr} (h : ShOk w A len S) (hc : Chg Z w W) (hs : ∀ b, A = some b → ¬ Z b.block) : ShOk W A len S := fun hl => by
  obtain ⟨g, o, e, hgl, hcs⟩ := h hl
  exact ⟨g, o, e, Nat.lt_of_lt_of_le hgl hc.size, fun i hi => (hc.cell hgl (hs _ e)).trans (hcs i hi)⟩

/-- What a cell holds. -/
def cellV (W : World) (p : Addr) : Value := (W.cell? p).getD undef
/-- A world behind another one, in which one cell may have been written. -/
structure Stor (b i : Nat) (A W : World) : Prop where
  chg : Chg (fun c => c = b) A W
  some : (W.cell? ⟨b, i, none⟩).isSome = true
  frz : W.frozen? ⟨b, i, none⟩ = false
theorem Stor.cell {b i : Nat} {A W : World} (h : Stor b i A W) : W.cell? ⟨b, i, none⟩ = .some (cellV W ⟨b, i, none⟩) := by
  have := h.some
  unfold cellV
  cases e : W.cell? ⟨b, i, none⟩ with
  | none => rw [e] at this; cases this
  | some v => rfl
theorem Stor.start {b i : Nat} {A : World} {v : Value} (h : A.cell? ⟨b, i, none⟩ = .some v) (hf : A.frozen? ⟨b, i, none⟩ = false) : Stor b i A A := ⟨Chg.refl _ _, by rw [h]; rfl, hf⟩
theorem Stor.later {b i : Nat} {A W V : World} (h : Stor b i A W) (hb : Below W.heap.size W V) : Stor b i A V := by
  have hl := block_lt h.cell
  exact ⟨h.chg.trans (Chg.of hb), by rw [hb.cell hl]; exact h.some, by rw [hb.frozen hl]; exact h.frz⟩
theorem Stor.drew {b i : Nat} {A W : World} (h : Stor b i A W) : Stor b i A W.drew := h.later ((Below.refl _ _).drew)
theorem Stor.set {b i : Nat} {A W : World} (h : Stor b i A W) (v : Value) : Stor b i A (W.setCell ⟨b, i, none⟩ v) :=
  ⟨h.chg.set1 v, by rw [set_same v h.cell]; rfl, by rw [World.frozen?_setCell]; exact h.frz⟩

set_option maxRecDepth 100000 in
set_option maxHeartbeats 4000000 in
theorem tAlloc (H : IsG T sp len S w L G md) (t a s : Nat) (z : Nat → Int) (ht : t < T) (ha : z 1 = (a : Int)) (ha6 : a < 6) (hz : z 5 = (s : Int)) (hs : s < len) (hmd : 0 ≤ md ∧ md < 9223372036854775807) :
    Calls Try.prog 55 #[trV L t z] w fun e w' => e = .returned (.agg #[.int .i64 0, .bool false, .int .i64 0]) ∧ (∃ L', Lay.Ext L L' w.heap.size ∧ IsG T sp len S w' L' ((G.more s).slot t a (G.n + 1)) (md + 1)) ∧ Chg L.own w w' := by
  have ra := (H.root t a ht ha6).1
  have fa := (H.root t a ht ha6).2
  have g0 := H.c0
  have g1 := H.c1
  have g2 := H.c2
  have g4 := H.c4
  have f4 := H.f4
  have lr := block_lt ra
  have lg := block_lt g0
  have h8 := (H.ok.tab.2.2 s hs).1
  have h16 := H.ok.tab.2.1
  have hsr : ∀ b, L.shA = some b → ¬ b.block = L.rb := fun b hb e => by have h1 := H.shn b hb; rw [e, H.tr] at h1; cases h1
  have CM1 := hide (fun W (hW : Chg (fun c => c = L.rb) w W) => made_any (S := S) L.shA L.shcap T sp s W (H.shp.chg hW hsr) hs h8 h16)
  have ow : L.own L.rb := by unfold Lay.own; rw [H.tr]; simp
  have owg : L.own L.g := by unfold Lay.own; rw [H.tg]; simp
  have hgr : L.g ≠ L.rb := fun e => by have h1 := H.tg; rw [e, H.tr] at h1; cases h1
  have HH := hide H
  clear H hsr
  have a0 : (0 : Int) ≤ (a : Int) := by omega
  have a1 : (a : Int) < 6 := by omega
  go_enter Try.func55, Try.ntmps55
  go_wp2
  refine wp_gen ?_; intro W1 hW1; have hB1 : Below w.heap.size w W1 := (by rw [hW1]; repeat (first | exact Below.refl _ _ | assumption | refine Below.alloc ?_ (by first | (simp; done) | (simp; omega) | omega) _ | refine Below.setCell ?_ (by first | (simp; done) | (simp; omega) | omega) _ | apply Below.drew | refine Below.trans ?_ (Below.mono (by assumption) (by first | (simp; done) | (simp; omega) | omega)))); have hz1 : w.heap.size < W1.heap.size := (by rw [hW1]; simp <;> omega); have u0 : ∀ v : Later W1, v.val.cell? ⟨w.heap.size, 0 + 1, none⟩ = some (.int .i64 (z 0)) := Later.cell hz1 (by rw [hW1]; go_simp); have u1 : ∀ v : Later W1, v.val.cell? ⟨w.heap.size, 1 + 1, none⟩ = some (.int .i64 (z 1)) := Later.cell hz1 (by rw [hW1]; go_simp); have u2 : ∀ v : Later W1, v.val.cell? ⟨w.heap.size, 2 + 1, none⟩ = some (.int .i64 (z 2)) := Later.cell hz1 (by rw [hW1]; go_simp); have u3 : ∀ v : Later W1, v.val.cell? ⟨w.heap.size, 3 + 1, none⟩ = some (.int .i64 (z 3)) := Later.cell hz1 (by rw [hW1]; go_simp); have u4 : ∀ v : Later W1, v.val.cell? ⟨w.heap.size, 4 + 1, none⟩ = some (.int .i64 (z 4)) := Later.cell hz1 (by rw [hW1]; go_simp); have u5 : ∀ v : Later W1, v.val.cell? ⟨w.heap.size, 5 + 1, none⟩ = some (.int .i64 (z 5)) := Later.cell hz1 (by rw [hW1]; go_simp); have u6 : ∀ v : Later W1, v.val.cell? ⟨w.heap.size, 6 + 1, none⟩ = some (.int .i64 (z 6)) := Later.cell hz1 (by rw [hW1]; go_simp); have u7 : ∀ v : Later W1, v.val.cell? ⟨w.heap.size, 7 + 1, none⟩ = some (.int .i64 (z 7)) := Later.cell hz1 (by rw [hW1]; go_simp); have ug : ∀ v : Later W1, v.val.cell? ⟨w.heap.size, 0, none⟩ = some (.pointer (some ⟨L.g, 0, none⟩)) := Later.cell hz1 (by rw [hW1]; go_simp); have us : ∀ v : Later W1, v.val.cell? ⟨w.heap.size, 9, none⟩ = some (.pointer (some ⟨L.rb, t * 6, none⟩)) := Later.cell hz1 (by rw [hW1]; go_simp)
  have hz2 : w.heap.size + 1 < W1.heap.size := (by rw [hW1]; simp); have k0 : W1.cell? ⟨w.heap.size + 1, 0, none⟩ = some (.int .i64 0) := (by rw [hW1]; go_simp); have k1 : W1.cell? ⟨w.heap.size + 1, 1, none⟩ = some (.bool false) := (by rw [hW1]; go_simp); have k2 : W1.cell? ⟨w.heap.size + 1, 2, none⟩ = some (.int .i64 0) := (by rw [hW1]; go_simp); have kf0 : W1.frozen? ⟨w.heap.size + 1, 0, none⟩ = false := (by rw [hW1]; go_simp); have kf1 : W1.frozen? ⟨w.heap.size + 1, 1, none⟩ = false := (by rw [hW1]; go_simp); have kf2 : W1.frozen? ⟨w.heap.size + 1, 2, none⟩ = false := (by rw [hW1]; go_simp); clear hW1
  have x0 := ug ⟨W1, Below.refl _ _⟩
  have x2 := u1 ⟨W1, Below.refl _ _⟩
  have x6 := u5 ⟨W1, Below.refl _ _⟩
  have x9 := us ⟨W1, Below.refl _ _⟩
  rw [ha] at x2
  rw [hz] at x6
  simp only [Nat.reduceAdd] at x2 x6
  clear u0 u1 u2 u3 u4 u5 u6 u7 ug us
  have g0 := (hB1.cell lg).trans g0
  have g1 := (hB1.cell lg).trans g1
  have g2 := (hB1.cell lg).trans g2
  have g4 := (hB1.cell lg).trans g4
  have f4 := (hB1.frozen lg).trans f4
  have hS0 := Stor.start ((hB1.cell lr).trans ra) ((hB1.frozen lr).trans fa)
  have lr0 : L.rb < w.heap.size := lr
  have lg0 : L.g < w.heap.size := lg
  have lr1 : L.rb < W1.heap.size := by omega
  have lg1 : L.g < W1.heap.size := by omega
  have hne1 : ¬ w.heap.size = L.rb := by omega
  have hne2 : ¬ w.heap.size + 1 = L.rb := by omega
  have hne3 : ¬ w.heap.size = L.g := by omega
  have hne4 : ¬ w.heap.size + 1 = L.g := by omega
  have CM := hide (fun W (hW : Stor L.rb (t * 6 + a) W1 W) => unhide CM1 W ((Chg.of hB1).trans hW.chg))
  clear ra fa lr lg
  go_region_held3 (fun W => Stor L.rb (t * 6 + a) W1 W ∧ W.cell? ⟨w.heap.size, 0, none⟩ = some (.pointer (some ⟨L.g, 0, none⟩)) ∧ W.cell? ⟨w.heap.size, 2, none⟩ = some (.int .i64 a) ∧ W.cell? ⟨w.heap.size, 6, none⟩ = some (.int .i64 s) ∧ W.cell? ⟨w.heap.size, 9, none⟩ = some (.pointer (some ⟨L.rb, t * 6, none⟩)) ∧ W.cell? ⟨L.g, 0, none⟩ = some (.int .i64 T) ∧ W.cell? ⟨L.g, 1, none⟩ = some (.int .i64 sp) ∧ W.cell? ⟨L.g, 2, none⟩ = some (.slice L.shA len L.shcap) ∧ W.cell? ⟨L.rb, t * 6 + a, none⟩ = some (cellV W ⟨L.rb, t * 6 + a, none⟩) ∧ W.frozen? ⟨L.rb, t * 6 + a, none⟩ = false)
    (((refine and_dep ?_ (fun hkq => ⟨(hkq.chg.cell hz1 hne1).trans x0, (hkq.chg.cell hz1 hne1).trans x2, (hkq.chg.cell hz1 hne1).trans x6, (hkq.chg.cell hz1 hne1).trans x9, (hkq.chg.cell lg1 hgr).trans g0, (hkq.chg.cell lg1 hgr).trans g1, (hkq.chg.cell lg1 hgr).trans g2, hkq.cell, hkq.frz⟩)); repeat (first | assumption | refine Stor.drew ?_ | refine Stor.set ?_ _ | refine Stor.later ?_ (by assumption))))
    ((go_at_call 30; refine (unhide CM _ (by repeat (first | assumption | refine Stor.drew ?_))).mono ?_; rintro e w3 ⟨⟨an, hbn, ibn, hcn, icn, rfl, hN⟩, hb3⟩; have HN := hide hN; clear hN))
  have hb4 : Below W1.heap.size W1 w3 := ((Below.refl _ W1).drew).trans (hb3.mono (Nat.le_refl _))
  have hB3 : Below w.heap.size w w3 := hB1.trans (hb4.mono (by omega))
  have hw1 : w.heap.size ≤ W1.heap.size := by omega
  have HG := hide (((unhide HH).below hB3).more hs (n0 := W1.heap.size) (fun b hb => Nat.lt_of_lt_of_le ((unhide HH).lt b hb) hw1) (fun b hb => Nat.lt_of_lt_of_le ((unhide HH).shlt b hb) hw1) (unhide HN))
  have HX := hide (Lay.ext_add (L := L) (n0 := w.heap.size) (x := G.n + 1) (hc := hcn) (ic := icn) (fun b hb => (unhide HH).lt b hb) (by have := (unhide HN).dis.1; exact Nat.le_trans hw1 this) (by have := (unhide HN).dis.2.1; exact Nat.le_trans hw1 this) (by have := (unhide HN).dis.2.2.1; exact Nat.le_trans hw1 this))
  have HY := hide (Lay.ext_add (L := L) (n0 := W1.heap.size) (x := G.n + 1) (hc := hcn) (ic := icn) (fun b hb => Nat.lt_of_lt_of_le ((unhide HH).lt b hb) hw1) (unhide HN).dis.1 (unhide HN).dis.2.1 (unhide HN).dis.2.2.1)
  have hpn : (L.add (G.n + 1) an hbn ibn hcn icn).ptr (G.n + 1) = .pointer (some ⟨an, 0, none⟩) := by
    unfold Lay.ptr
    rw [if_neg (by omega)]
    show Value.pointer (some ⟨(if G.n + 1 = G.n + 1 then an else L.adr (G.n + 1)), 0, none⟩) = _
    rw [if_pos rfl]
  have HG2 := hide (((unhide HG).set_root ht ha6 (x := G.n + 1) (.inr (.inl rfl))).set_made (md + 1))
  rw [hpn] at HG2
  have y0 := (hb4.cell hz1).trans x0
  have y4 := (hb4.cell lg1).trans g4
  have yf := (hb4.frozen lg1).trans f4
  have k0 := (hb4.cell hz2).trans k0
  have k1 := (hb4.cell hz2).trans k1
  have k2 := (hb4.cell hz2).trans k2
  have kf0 := (hb4.frozen hz2).trans kf0
  have kf1 := (hb4.frozen hz2).trans kf1
  have kf2 := (hb4.frozen hz2).trans kf2
  have hne5 : ¬ L.g = L.rb := hgr
  have hne6 : ¬ L.rb = L.g := fun e => hgr e.symm
  have hne7 : ¬ L.rb = w.heap.size := fun e => hne1 e.symm
  have hne8 : ¬ L.rb = w.heap.size + 1 := fun e => hne2 e.symm
  have hne9 : ¬ L.g = w.heap.size := fun e => hne3 e.symm
  have hne10 : ¬ L.g = w.heap.size + 1 := fun e => hne4 e.symm
  obtain ⟨md0, md1⟩ := hmd
  clear x0 x2 x6 x9 g0 g1 g2 g4 f4 hS0 CM CM1 hpn HG HN hb3
  go_wp2
  refine bodyPost_ret (v := .agg #[.int .i64 0, .bool false, .int .i64 0]) (by simp only [results, Try.results55]; go_simp) rfl ⟨rfl, ?_, ?_⟩
  · refine ⟨_, unhide HX, (unhide HG2).offs3 _ _ _ (fun h => ?_) (fun c hc e => ?_)⟩
    · rcases (unhide HY).own _ h with h | h
      · have := (unhide HH).lt _ h
        omega
      · omega
    · have := (unhide HH).shlt c hc
      omega
  · exact (((Chg.of hB3).set (.inr ow) _).set (.inr owg) _).far3 _ _ _ (by omega)
end
end Go.Proofs.Ytbkaopeajjechaa
