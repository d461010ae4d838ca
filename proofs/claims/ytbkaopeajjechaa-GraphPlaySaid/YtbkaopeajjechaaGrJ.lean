/- The specification of graphs: slots and objects by numbers; how a graph lies in memory. No program in sight. -/
import Derived.Test.YtbkaopeajjechaaGrI
import Derived.Test.YtbkaopeajjechaaPm
namespace Go.Proofs.Ytbkaopeajjechaa
set_option linter.unusedVariables false
set_option linter.unusedSimpArgs false
open Go.RowKit Go.Maps

/-- Slots and objects, numbered from 1 on. -/
structure Gr where
  n : Nat
  root : Nat → Nat → Nat
  sh : Nat → Nat
  fl : Nat → Nat → Int

/-- Another object in a slot; another number in a field; another object. -/
def Gr.slot (G : Gr) (t s x : Nat) : Gr := { G with root := fun a b => if a = t ∧ b = s then x else G.root a b }
def Gr.field (G : Gr) (x f : Nat) (v : Int) : Gr := { G with fl := fun a b => if a = x ∧ b = f then v else G.fl a b }
def Gr.more (G : Gr) (s : Nat) : Gr := { G with n := G.n + 1, sh := fun x => if x = G.n + 1 then s else G.sh x, fl := fun x f => if x = G.n + 1 then 0 else G.fl x f }
def Gr.new : Gr := { n := 1, root := fun _ s => if s = 0 then 1 else 0, sh := fun _ => 0, fl := fun _ _ => 0 }

section
variable (len : Nat) (S : Nat → ByteArray)
/-- What an operation is refused with. -/
noncomputable def Gr.err (G : Gr) (t : Nat) (z : Nat → Int) : Int :=
  if opE len S z ≠ 0 then opE len S z
  else if z 0 = 1 ∨ 8 ≤ z 0 then 0
  else if G.root t (z 1).toNat = 0 then 183
  else isE len S (G.sh (G.root t (z 1).toNat)) (z 4) (fldK (z 0))

/-- The object, and what its field holds. -/
def Gr.obj (G : Gr) (t : Nat) (z : Nat → Int) : Nat := G.root t (z 1).toNat
def Gr.got (G : Gr) (t : Nat) (z : Nat → Int) : Int := G.fl (G.obj t z) (z 4).toNat

/-- The graph behind an operation that is not refused. -/
def Gr.did (G : Gr) (t : Nat) (z : Nat → Int) : Gr :=
  if z 0 = 1 then (G.more (z 5).toNat).slot t (z 1).toNat (G.n + 1)
  else if z 0 = 2 then G.slot t (z 2).toNat (G.got t z).toNat
  else if z 0 = 3 then G.field (G.obj t z) (z 4).toNat (G.root t (z 2).toNat)
  else if z 0 = 4 then (if G.got t z = G.root t (z 2).toNat then G.field (G.obj t z) (z 4).toNat (G.root t (z 3).toNat) else G)
  else if z 0 = 6 then G.field (G.obj t z) (z 4).toNat (z 6)
  else if z 0 = 7 then (if G.got t z = z 6 then G.field (G.obj t z) (z 4).toNat (z 7) else G)
  else if z 0 = 9 then G.slot t (z 1).toNat (G.root t (z 2).toNat)
  else if z 0 = 10 then G.slot t (z 1).toNat 0
  else G
/-- Whether it went well; what it tells. -/
def Gr.is (G : Gr) (t : Nat) (z : Nat → Int) : Bool :=
  if z 0 = 2 then G.got t z != 0
  else if z 0 = 4 then G.got t z == G.root t (z 2).toNat
  else if z 0 = 7 then G.got t z == z 6
  else if z 0 = 8 then G.root t (z 1).toNat == G.root t (z 2).toNat
  else false
def Gr.val (G : Gr) (t : Nat) (z : Nat → Int) : Int := if z 0 = 5 then G.got t z else 0

noncomputable def Gr.next (G : Gr) (t : Nat) (z : Nat → Int) : Gr := if G.err len S t z = 0 then G.did t z else G
/-- What an operation is answered: its error, whether it went well, what it tells. -/
noncomputable def Gr.out (G : Gr) (t : Nat) (z : Nat → Int) : Value :=
  if G.err len S t z = 0 then .agg #[.int .i64 0, .bool (G.is t z), .int .i64 (G.val t z)] else .agg #[.int .i64 (G.err len S t z), .bool false, .int .i64 0]

/-- What a pointer field, a scalar field of an object holds. -/
def Gr.held (G : Gr) (x f : Nat) : Nat := if kd (S (G.sh x)) f = 0 then (G.fl x f).toNat else 0
def Gr.ints (G : Gr) (x f : Nat) : Int := if kd (S (G.sh x)) f = 0 then 0 else G.fl x f

/-- A graph as operations make it. -/
structure Gr.Ok (T : Nat) (G : Gr) : Prop where
  tab : okT len S
  root : ∀ t s, t < T → s < 6 → G.root t s ≤ G.n
  sh : ∀ x, 1 ≤ x → x ≤ G.n → G.sh x < len
  ptr : ∀ x f, 1 ≤ x → x ≤ G.n → f < (S (G.sh x)).size → kd (S (G.sh x)) f = 0 → 0 ≤ G.fl x f ∧ G.fl x f ≤ G.n
end

/-- What a block is there for. -/
inductive Tg where
  | no
  | gr
  | ro
  | ob (x : Nat)
  | he (x : Nat)
  | it (x : Nat)
  deriving DecidableEq

/-- Where a graph lies. -/
structure Lay where
  g : Nat
  rb : Nat
  rcap : Nat
  shA : Option Addr
  shcap : Nat
  adr : Nat → Nat
  hb : Nat → Nat
  hA : Nat → Option Addr
  hc : Nat → Nat
  ib : Nat → Nat
  iA : Nat → Option Addr
  ic : Nat → Nat
  dom : Nat → Prop
  tag : Nat → Tg

def Lay.own (L : Lay) (b : Nat) : Prop := L.tag b ≠ .no
/-- An object as a pointer. -/
def Lay.ptr (L : Lay) (k : Nat) : Value := if k = 0 then .pointer none else .pointer (some ⟨L.adr k, 0, none⟩)

/-- An object in memory. -/
structure ObjAt (S : Nat → ByteArray) (w : World) (L : Lay) (G : Gr) (x : Nat) : Prop where
  num : 1 ≤ x ∧ x ≤ G.n
  cells : IsCells w (L.adr x)
  c0 : w.cell? ⟨L.adr x, 0, none⟩ = some (.int .i64 (G.sh x))
  c1 : w.cell? ⟨L.adr x, 1, none⟩ = some (.slice (L.hA x) (S (G.sh x)).size (L.hc x))
  c2 : w.cell? ⟨L.adr x, 2, none⟩ = some (.slice (L.iA x) (S (G.sh x)).size (L.ic x))
  tag : L.tag (L.adr x) = .ob x
  pos : 0 < (S (G.sh x)).size → L.hA x = some ⟨L.hb x, 0, none⟩ ∧ L.iA x = some ⟨L.ib x, 0, none⟩ ∧ L.tag (L.hb x) = .he x ∧ L.tag (L.ib x) = .it x
  held : ∀ f, f < (S (G.sh x)).size → w.cell? ⟨L.hb x, f, none⟩ = some (L.ptr (G.held S x f)) ∧ w.frozen? ⟨L.hb x, f, none⟩ = false
  ints : ∀ f, f < (S (G.sh x)).size → w.cell? ⟨L.ib x, f, none⟩ = some (.int .i64 (G.ints S x f)) ∧ w.frozen? ⟨L.ib x, f, none⟩ = false
  inn : ∀ f, f < (S (G.sh x)).size → G.held S x f = 0 ∨ L.dom (G.held S x f)

/-- A graph in memory: so many threads, a space, a table of shapes; made: what the graph tells of objects that were made. -/
structure IsG (T : Nat) (sp : Int) (len : Nat) (S : Nat → ByteArray) (w : World) (L : Lay) (G : Gr) (made : Int) : Prop where
  ok : G.Ok len S T
  c0 : w.cell? ⟨L.g, 0, none⟩ = some (.int .i64 T)
  c1 : w.cell? ⟨L.g, 1, none⟩ = some (.int .i64 sp)
  c2 : w.cell? ⟨L.g, 2, none⟩ = some (.slice L.shA len L.shcap)
  c3 : w.cell? ⟨L.g, 3, none⟩ = some (.slice (some ⟨L.rb, 0, none⟩) T L.rcap)
  c4 : w.cell? ⟨L.g, 4, none⟩ = some (.int .i64 made)
  f4 : w.frozen? ⟨L.g, 4, none⟩ = false
  tg : L.tag L.g = .gr
  tr : L.tag L.rb = .ro
  shp : ShOk w L.shA len S
  shn : ∀ b, L.shA = some b → L.tag b.block = .no
  root : ∀ t s, t < T → s < 6 → w.cell? ⟨L.rb, t * 6 + s, none⟩ = some (L.ptr (G.root t s)) ∧ w.frozen? ⟨L.rb, t * 6 + s, none⟩ = false
  rinn : ∀ t s, t < T → s < 6 → G.root t s = 0 ∨ L.dom (G.root t s)
  obj : ∀ x, L.dom x → ObjAt S w L G x
  lt : ∀ b, L.tag b ≠ .no → b < w.heap.size
  one : 1 ≤ T ∧ T ≤ 8

theorem IsCells.chg {Z : Nat → Prop} {w W : World} {a : Nat} (h : IsCells w a) (hc : Chg Z w W) (ha : ¬ Z a) : IsCells W a := by
  obtain ⟨c, t, h⟩ := h
  have hl : a < w.heap.size := by
    rcases Nat.lt_or_ge a w.heap.size with h' | h'
    · exact h'
    · rw [Array.getElem?_eq_none h'] at h; cases h
  exact ⟨c, t, (hc.block a hl ha).trans h⟩

theorem IsCells.set {w : World} {a : Nat} (h : IsCells w a) (b i : Nat) (v : Value) : IsCells (w.setCell ⟨b, i, none⟩ v) a := by
  obtain ⟨c, t, h⟩ := h
  by_cases e : a = b
  · subst e
    exact ⟨_, t, heap_setCell_same w a i c t v h⟩
  · exact ⟨c, t, (Below.heap_setCell w ⟨b, i, none⟩ v a e).trans h⟩

theorem IsCells.frozen {w : World} {a : Nat} (h : IsCells w a) (i : Nat) : w.frozen? ⟨a, i, none⟩ = false := by
  obtain ⟨c, t, h⟩ := h
  simp [World.frozen?, h]

theorem set_other {w : World} {b i c j : Nat} (v : Value) (h : c ≠ b ∨ j ≠ i) : (w.setCell ⟨b, i, none⟩ v).cell? ⟨c, j, none⟩ = w.cell? ⟨c, j, none⟩ :=
  World.cell?_setCell_other _ _ _ _ (fun e => by injection e with e1 e2 _; rcases h with h | h; exact h e1.symm; exact h e2.symm)
theorem set_same {w : World} {b i : Nat} {u : Value} (v : Value) (h : w.cell? ⟨b, i, none⟩ = some u) : (w.setCell ⟨b, i, none⟩ v).cell? ⟨b, i, none⟩ = some v :=
  World.cell?_setCell_same' _ _ _ (by rw [h]; rfl)

section
variable {T : Nat} {sp : Int} {len : Nat} {S : Nat → ByteArray} {w W : World} {L : Lay} {G : Gr} {md : Int}

theorem ObjAt.lt {x : Nat} (h : ObjAt S w L G x) : L.adr x < w.heap.size := block_lt h.c0

/-- What others change leaves an object alone. -/
theorem ObjAt.keep {Z : Nat → Prop} {x : Nat} (h : ObjAt S w L G x) (hc : Chg Z w W) (hZ : ∀ b, L.own b → ¬ Z b) : ObjAt S W L G x := by
  have hz : ∀ b τ, L.tag b = τ → τ ≠ .no → ¬ Z b := fun b τ h1 h2 => hZ b (by unfold Lay.own; rw [h1]; exact h2)
  have h1 := hz _ _ h.tag (by simp)
  refine ⟨h.num, h.cells.chg hc h1, (hc.cell h.lt h1).trans h.c0, (hc.cell h.lt h1).trans h.c1, (hc.cell h.lt h1).trans h.c2, h.tag, h.pos, fun f hf => ?_, fun f hf => ?_, h.inn⟩
  · obtain ⟨-, -, t1, -⟩ := h.pos (by omega)
    have := hz _ _ t1 (by simp)
    have hl : L.hb x < w.heap.size := block_lt (h.held f hf).1
    exact ⟨(hc.cell hl this).trans (h.held f hf).1, (hc.frozen hl this).trans (h.held f hf).2⟩
  · obtain ⟨-, -, -, t1⟩ := h.pos (by omega)
    have := hz _ _ t1 (by simp)
    have hl : L.ib x < w.heap.size := block_lt (h.ints f hf).1
    exact ⟨(hc.cell hl this).trans (h.ints f hf).1, (hc.frozen hl this).trans (h.ints f hf).2⟩

/-- What others change leaves a graph alone. -/
theorem IsG.keep {Z : Nat → Prop} (h : IsG T sp len S w L G md) (hc : Chg Z w W) (hZ : ∀ b, L.own b → ¬ Z b) (hs : ∀ b, L.shA = some b → ¬ Z b.block) : IsG T sp len S W L G md := by
  have hz : ∀ b τ, L.tag b = τ → τ ≠ .no → ¬ Z b := fun b τ h1 h2 => hZ b (by unfold Lay.own; rw [h1]; exact h2)
  have hg := hz _ _ h.tg (by simp)
  have hr := hz _ _ h.tr (by simp)
  have lg : L.g < w.heap.size := block_lt h.c0
  refine ⟨h.ok, (hc.cell lg hg).trans h.c0, (hc.cell lg hg).trans h.c1, (hc.cell lg hg).trans h.c2, (hc.cell lg hg).trans h.c3, (hc.cell lg hg).trans h.c4, (hc.frozen lg hg).trans h.f4, h.tg, h.tr, fun hl => ?_, h.shn, fun t s ht hs => ?_, h.rinn, fun x hx => (h.obj x hx).keep hc hZ, fun b hb => Nat.lt_of_lt_of_le (h.lt b hb) hc.size, h.one⟩
  · obtain ⟨g, o, e, hgl, hcs⟩ := h.shp hl
    exact ⟨g, o, e, Nat.lt_of_lt_of_le hgl hc.size, fun i hi => (hc.cell hgl (hs _ e)).trans (hcs i hi)⟩
  · have lr : L.rb < w.heap.size := block_lt (h.root t s ht hs).1
    exact ⟨(hc.cell lr hr).trans (h.root t s ht hs).1, (hc.frozen lr hr).trans (h.root t s ht hs).2⟩

theorem IsG.below (h : IsG T sp len S w L G md) (hb : Below w.heap.size w W) : IsG T sp len S W L G md :=
  h.keep (Z := fun _ => False) (Chg.of hb) (fun _ _ h => h) (fun _ _ h => h)

theorem IsG.shlt (h : IsG T sp len S w L G md) : ∀ b, L.shA = some b → b.block < w.heap.size := fun b hb => by
  have hl : 0 < len := by have := h.ok.tab.1; omega
  obtain ⟨g, o, e, hgl, -⟩ := h.shp hl
  rw [hb] at e
  cases e
  exact hgl

theorem Gr.Ok.slot (h : G.Ok len S T) {t s x : Nat} (hx : x ≤ G.n) : (G.slot t s x).Ok len S T :=
  ⟨h.tab, fun a b ha hb => by
    show (if a = t ∧ b = s then x else G.root a b) ≤ G.n
    split
    · exact hx
    · exact h.root a b ha hb, h.sh, h.ptr⟩

/-- Another object in a slot. -/
theorem IsG.set_root (h : IsG T sp len S w L G md) {t s x : Nat} (ht : t < T) (hs : s < 6) (hx : x = 0 ∨ L.dom x) :
    IsG T sp len S (w.setCell ⟨L.rb, t * 6 + s, none⟩ (L.ptr x)) L (G.slot t s x) md := by
  have hne : ∀ b τ, L.tag b = τ → τ ≠ .ro → b ≠ L.rb := fun b τ h1 h2 e => h2 (by rw [← h1, e]; exact h.tr)
  have oc : ∀ b j, b ≠ L.rb → (w.setCell ⟨L.rb, t * 6 + s, none⟩ (L.ptr x)).cell? ⟨b, j, none⟩ = w.cell? ⟨b, j, none⟩ := fun b j hb => set_other _ (.inl hb)
  have hg := hne _ _ h.tg (by simp)
  have hxn : x ≤ G.n := by
    rcases hx with rfl | hx
    · exact Nat.zero_le _
    · exact (h.obj x hx).num.2
  refine ⟨h.ok.slot hxn, (oc _ _ hg).trans h.c0, (oc _ _ hg).trans h.c1, (oc _ _ hg).trans h.c2, (oc _ _ hg).trans h.c3, (oc _ _ hg).trans h.c4, by rw [World.frozen?_setCell]; exact h.f4, h.tg, h.tr, fun hl => ?_, h.shn, fun a b ha hb => ?_, fun a b ha hb => ?_, fun y hy => ?_, fun b hb => by rw [World.size_setCell]; exact h.lt b hb, h.one⟩
  · obtain ⟨g, o, e, hgl, hcs⟩ := h.shp hl
    exact ⟨g, o, e, by rw [World.size_setCell]; exact hgl, fun i hi => (oc _ _ (hne g _ (h.shn _ e) (by simp))).trans (hcs i hi)⟩
  · refine ⟨?_, by rw [World.frozen?_setCell]; exact (h.root a b ha hb).2⟩
    show _ = some (L.ptr (if a = t ∧ b = s then x else G.root a b))
    by_cases e : a = t ∧ b = s
    · rw [if_pos e, e.1, e.2]
      exact set_same _ (h.root t s ht hs).1
    · rw [if_neg e, set_other _ (.inr (by omega))]
      exact (h.root a b ha hb).1
  · show (if a = t ∧ b = s then x else G.root a b) = 0 ∨ L.dom (if a = t ∧ b = s then x else G.root a b)
    split
    · exact hx
    · exact h.rinn a b ha hb
  · have ho := h.obj y hy
    have h1 := hne _ _ ho.tag (by simp)
    refine ⟨ho.num, ho.cells.set _ _ _, (oc _ _ h1).trans ho.c0, (oc _ _ h1).trans ho.c1, (oc _ _ h1).trans ho.c2, ho.tag, ho.pos, fun f hf => ?_, fun f hf => ?_, ho.inn⟩
    · obtain ⟨-, -, t1, -⟩ := ho.pos (by have : f < (S (G.sh y)).size := hf; omega)
      exact ⟨(oc _ _ (hne _ _ t1 (by simp))).trans (ho.held f hf).1, by rw [World.frozen?_setCell]; exact (ho.held f hf).2⟩
    · obtain ⟨-, -, -, t1⟩ := ho.pos (by have : f < (S (G.sh y)).size := hf; omega)
      exact ⟨(oc _ _ (hne _ _ t1 (by simp))).trans (ho.ints f hf).1, by rw [World.frozen?_setCell]; exact (ho.ints f hf).2⟩

theorem Gr.field_fl (G : Gr) (o f : Nat) (v : Int) (x g : Nat) : (G.field o f v).fl x g = if x = o ∧ g = f then v else G.fl x g := rfl

theorem Gr.Ok.field (h : G.Ok len S T) {o f : Nat} {v : Int} (hv : kd (S (G.sh o)) f = 0 → 0 ≤ v ∧ v ≤ G.n) : (G.field o f v).Ok len S T :=
  ⟨h.tab, h.root, h.sh, fun x g h1 h2 h3 h4 => by
    rw [Gr.field_fl]
    split
    · rename_i e
      rw [e.1, e.2] at h4
      exact hv h4
    · exact h.ptr x g h1 h2 h3 h4⟩

theorem Gr.held_field (G : Gr) (o f : Nat) (v : Int) (x g : Nat) : (G.field o f v).held S x g = if x = o ∧ g = f then (if kd (S (G.sh o)) f = 0 then v.toNat else 0) else G.held S x g := by
  show (if kd (S (G.sh x)) g = 0 then ((G.field o f v).fl x g).toNat else 0) = _
  rw [Gr.field_fl]
  by_cases e : x = o ∧ g = f
  · rw [if_pos e, if_pos e, e.1, e.2]
  · rw [if_neg e, if_neg e]
    rfl
theorem Gr.ints_field (G : Gr) (o f : Nat) (v : Int) (x g : Nat) : (G.field o f v).ints S x g = if x = o ∧ g = f then (if kd (S (G.sh o)) f = 0 then 0 else v) else G.ints S x g := by
  show (if kd (S (G.sh x)) g = 0 then 0 else ((G.field o f v).fl x g)) = _
  rw [Gr.field_fl]
  by_cases e : x = o ∧ g = f
  · rw [if_pos e, if_pos e, e.1, e.2]
  · rw [if_neg e, if_neg e]
    rfl

/-- A store into a block of an object's own: what stays. -/
theorem IsG.set_own (h : IsG T sp len S w L G md) {b i : Nat} {v : Value} {G' : Gr} (hb : L.tag b ≠ .no) (hg : L.tag b ≠ .gr) (hr : L.tag b ≠ .ro) (hok : G'.Ok len S T) (hro : G'.root = G.root)
    (hob : ∀ x, L.dom x → ObjAt S w L G x → ObjAt S (w.setCell ⟨b, i, none⟩ v) L G' x) : IsG T sp len S (w.setCell ⟨b, i, none⟩ v) L G' md := by
  have hne : ∀ c, L.tag c ≠ L.tag b → c ≠ b := fun c h1 e => h1 (by rw [e])
  have oc : ∀ c j, c ≠ b → (w.setCell ⟨b, i, none⟩ v).cell? ⟨c, j, none⟩ = w.cell? ⟨c, j, none⟩ := fun c j hc => set_other _ (.inl hc)
  have h1 := hne L.g (by rw [h.tg]; exact fun e => hg e.symm)
  have h2 := hne L.rb (by rw [h.tr]; exact fun e => hr e.symm)
  refine ⟨hok, (oc _ _ h1).trans h.c0, (oc _ _ h1).trans h.c1, (oc _ _ h1).trans h.c2, (oc _ _ h1).trans h.c3, (oc _ _ h1).trans h.c4, by rw [World.frozen?_setCell]; exact h.f4, h.tg, h.tr, fun hl => ?_, h.shn, fun a c ha hc => ?_, by rw [hro]; exact h.rinn, fun x hx => hob x hx (h.obj x hx), fun b hb => by rw [World.size_setCell]; exact h.lt b hb, h.one⟩
  · obtain ⟨g, o, e, hgl, hcs⟩ := h.shp hl
    exact ⟨g, o, e, by rw [World.size_setCell]; exact hgl, fun i hi => (oc _ _ (hne g (by rw [h.shn _ e]; exact fun e => hb e.symm))).trans (hcs i hi)⟩
  · rw [hro]
    exact ⟨(oc _ _ h2).trans (h.root a c ha hc).1, by rw [World.frozen?_setCell]; exact (h.root a c ha hc).2⟩

theorem set_held_obj {o f x y : Nat} (ho : ObjAt S w L G o) (hf : f < (S (G.sh o)).size) (hk : kd (S (G.sh o)) f = 0) (hx : x = 0 ∨ L.dom x) (hy : ObjAt S w L G y) :
    ObjAt S (w.setCell ⟨L.hb o, f, none⟩ (L.ptr x)) L (G.field o f x) y := by
  obtain ⟨-, -, tq, -⟩ := ho.pos (by omega)
  have hne : ∀ c, L.tag c ≠ .he o → c ≠ L.hb o := fun c h1 e => h1 (by rw [e]; exact tq)
  have oc : ∀ c j, c ≠ L.hb o → (w.setCell ⟨L.hb o, f, none⟩ (L.ptr x)).cell? ⟨c, j, none⟩ = w.cell? ⟨c, j, none⟩ := fun c j hc => set_other _ (.inl hc)
  have h1 := hne (L.adr y) (by rw [hy.tag]; simp)
  refine ⟨hy.num, hy.cells.set _ _ _, (oc _ _ h1).trans hy.c0, (oc _ _ h1).trans hy.c1, (oc _ _ h1).trans hy.c2, hy.tag, hy.pos, fun g hg => ?_, fun g hg => ?_, fun g hg => ?_⟩
  · obtain ⟨-, -, t1, -⟩ := hy.pos (by have : g < (S (G.sh y)).size := hg; omega)
    refine ⟨?_, by rw [World.frozen?_setCell]; exact (hy.held g hg).2⟩
    rw [Gr.held_field]
    by_cases e : y = o ∧ g = f
    · rw [if_pos e, if_pos hk, e.1, e.2, Int.toNat_natCast]
      exact set_same _ (ho.held f hf).1
    · rw [if_neg e, set_other _ (by
        by_cases e2 : L.hb y = L.hb o
        · right
          intro e3
          rw [e2, tq] at t1
          injection t1 with t1
          exact e ⟨t1.symm, e3⟩
        · exact .inl e2)]
      exact (hy.held g hg).1
  · obtain ⟨-, -, -, t1⟩ := hy.pos (by have : g < (S (G.sh y)).size := hg; omega)
    refine ⟨?_, by rw [World.frozen?_setCell]; exact (hy.ints g hg).2⟩
    rw [Gr.ints_field, oc _ _ (hne _ (by rw [t1]; simp))]
    by_cases e : y = o ∧ g = f
    · rw [if_pos e, if_pos hk, (hy.ints g hg).1]
      unfold Gr.ints
      rw [e.1, e.2, if_pos hk]
    · rw [if_neg e]
      exact (hy.ints g hg).1
  · rw [Gr.held_field]
    by_cases e : y = o ∧ g = f
    · rw [if_pos e, if_pos hk, Int.toNat_natCast]
      exact hx
    · rw [if_neg e]
      exact hy.inn g hg

/-- Another object in a field. -/
theorem IsG.set_held (h : IsG T sp len S w L G md) {o f x : Nat} (ho : L.dom o) (hf : f < (S (G.sh o)).size) (hk : kd (S (G.sh o)) f = 0) (hx : x = 0 ∨ L.dom x) :
    IsG T sp len S (w.setCell ⟨L.hb o, f, none⟩ (L.ptr x)) L (G.field o f x) md := by
  have hO := h.obj o ho
  obtain ⟨-, -, tq, -⟩ := hO.pos (by omega)
  have hxn : x ≤ G.n := by
    rcases hx with rfl | hx
    · exact Nat.zero_le _
    · exact (h.obj x hx).num.2
  exact h.set_own (by rw [tq]; simp) (by rw [tq]; simp) (by rw [tq]; simp) (h.ok.field (fun _ => ⟨by omega, by omega⟩)) rfl (fun y _ hy => set_held_obj hO hf hk hx hy)

theorem set_int_obj {o f y : Nat} {v : Int} (ho : ObjAt S w L G o) (hf : f < (S (G.sh o)).size) (hk : ¬ kd (S (G.sh o)) f = 0) (hy : ObjAt S w L G y) :
    ObjAt S (w.setCell ⟨L.ib o, f, none⟩ (.int .i64 v)) L (G.field o f v) y := by
  obtain ⟨-, -, -, tq⟩ := ho.pos (by omega)
  have hne : ∀ c, L.tag c ≠ .it o → c ≠ L.ib o := fun c h1 e => h1 (by rw [e]; exact tq)
  have oc : ∀ c j, c ≠ L.ib o → (w.setCell ⟨L.ib o, f, none⟩ (.int .i64 v)).cell? ⟨c, j, none⟩ = w.cell? ⟨c, j, none⟩ := fun c j hc => set_other _ (.inl hc)
  have h1 := hne (L.adr y) (by rw [hy.tag]; simp)
  refine ⟨hy.num, hy.cells.set _ _ _, (oc _ _ h1).trans hy.c0, (oc _ _ h1).trans hy.c1, (oc _ _ h1).trans hy.c2, hy.tag, hy.pos, fun g hg => ?_, fun g hg => ?_, fun g hg => ?_⟩
  · obtain ⟨-, -, t1, -⟩ := hy.pos (by have : g < (S (G.sh y)).size := hg; omega)
    refine ⟨?_, by rw [World.frozen?_setCell]; exact (hy.held g hg).2⟩
    rw [Gr.held_field, oc _ _ (hne _ (by rw [t1]; simp))]
    by_cases e : y = o ∧ g = f
    · rw [if_pos e, if_neg hk, (hy.held g hg).1]
      unfold Gr.held
      rw [e.1, e.2, if_neg hk]
    · rw [if_neg e]
      exact (hy.held g hg).1
  · obtain ⟨-, -, -, t1⟩ := hy.pos (by have : g < (S (G.sh y)).size := hg; omega)
    refine ⟨?_, by rw [World.frozen?_setCell]; exact (hy.ints g hg).2⟩
    rw [Gr.ints_field]
    by_cases e : y = o ∧ g = f
    · rw [if_pos e, if_neg hk, e.1, e.2]
      exact set_same _ (ho.ints f hf).1
    · rw [if_neg e, set_other _ (by
        by_cases e2 : L.ib y = L.ib o
        · right
          intro e3
          rw [e2, tq] at t1
          injection t1 with t1
          exact e ⟨t1.symm, e3⟩
        · exact .inl e2)]
      exact (hy.ints g hg).1
  · rw [Gr.held_field]
    by_cases e : y = o ∧ g = f
    · rw [if_pos e, if_neg hk]
      exact .inl rfl
    · rw [if_neg e]
      exact hy.inn g hg

/-- Another number in a field. -/
theorem IsG.set_int (h : IsG T sp len S w L G md) {o f : Nat} {v : Int} (ho : L.dom o) (hf : f < (S (G.sh o)).size) (hk : ¬ kd (S (G.sh o)) f = 0) :
    IsG T sp len S (w.setCell ⟨L.ib o, f, none⟩ (.int .i64 v)) L (G.field o f v) md := by
  have hO := h.obj o ho
  obtain ⟨-, -, -, tq⟩ := hO.pos (by omega)
  exact h.set_own (by rw [tq]; simp) (by rw [tq]; simp) (by rw [tq]; simp) (h.ok.field (fun e => absurd e hk)) rfl (fun y _ hy => set_int_obj hO hf hk hy)

/-- The number of objects that were made. -/
theorem IsG.set_made (h : IsG T sp len S w L G md) (m : Int) : IsG T sp len S (w.setCell ⟨L.g, 4, none⟩ (.int .i64 m)) L G m := by
  have hne : ∀ b τ, L.tag b = τ → τ ≠ .gr → b ≠ L.g := fun b τ h1 h2 e => h2 (by rw [← h1, e]; exact h.tg)
  have oc : ∀ b j, b ≠ L.g ∨ j ≠ 4 → (w.setCell ⟨L.g, 4, none⟩ (.int .i64 m)).cell? ⟨b, j, none⟩ = w.cell? ⟨b, j, none⟩ := fun b j hb => set_other _ hb
  have h2 := hne _ _ h.tr (by simp)
  refine ⟨h.ok, (oc _ _ (.inr (by omega))).trans h.c0, (oc _ _ (.inr (by omega))).trans h.c1, (oc _ _ (.inr (by omega))).trans h.c2, (oc _ _ (.inr (by omega))).trans h.c3, set_same _ h.c4, by rw [World.frozen?_setCell]; exact h.f4, h.tg, h.tr, fun hl => ?_, h.shn, fun a b ha hb => ⟨(oc _ _ (.inl h2)).trans (h.root a b ha hb).1, by rw [World.frozen?_setCell]; exact (h.root a b ha hb).2⟩, h.rinn, fun y hy => ?_, fun b hb => by rw [World.size_setCell]; exact h.lt b hb, h.one⟩
  · obtain ⟨g, o, e, hgl, hcs⟩ := h.shp hl
    exact ⟨g, o, e, by rw [World.size_setCell]; exact hgl, fun i hi => (oc _ _ (.inl (hne g _ (h.shn _ e) (by simp)))).trans (hcs i hi)⟩
  · have ho := h.obj y hy
    have h1 := hne _ _ ho.tag (by simp)
    refine ⟨ho.num, ho.cells.set _ _ _, (oc _ _ (.inl h1)).trans ho.c0, (oc _ _ (.inl h1)).trans ho.c1, (oc _ _ (.inl h1)).trans ho.c2, ho.tag, ho.pos, fun f hf => ?_, fun f hf => ?_, ho.inn⟩
    · obtain ⟨-, -, t1, -⟩ := ho.pos (by omega)
      exact ⟨(oc _ _ (.inl (hne _ _ t1 (by simp)))).trans (ho.held f hf).1, by rw [World.frozen?_setCell]; exact (ho.held f hf).2⟩
    · obtain ⟨-, -, -, t1⟩ := ho.pos (by omega)
      exact ⟨(oc _ _ (.inl (hne _ _ t1 (by simp)))).trans (ho.ints f hf).1, by rw [World.frozen?_setCell]; exact (ho.ints f hf).2⟩

/-- An object anew: where it lies, so many fields, all nothing. -/
structure NewObj (n0 : Nat) (W : World) (a hb ib : Nat) (hc ic : Nat) (s : Int) (m : Nat) : Prop where
  dis : n0 ≤ a ∧ n0 ≤ hb ∧ n0 ≤ ib ∧ a ≠ hb ∧ a ≠ ib ∧ hb ≠ ib
  lt : a < W.heap.size ∧ hb < W.heap.size ∧ ib < W.heap.size
  cells : IsCells W a
  c0 : W.cell? ⟨a, 0, none⟩ = some (.int .i64 s)
  c1 : W.cell? ⟨a, 1, none⟩ = some (.slice (some ⟨hb, 0, none⟩) m hc)
  c2 : W.cell? ⟨a, 2, none⟩ = some (.slice (some ⟨ib, 0, none⟩) m ic)
  held : ∀ f, f < m → W.cell? ⟨hb, f, none⟩ = some (.pointer none) ∧ W.frozen? ⟨hb, f, none⟩ = false
  ints : ∀ f, f < m → W.cell? ⟨ib, f, none⟩ = some (.int .i64 0) ∧ W.frozen? ⟨ib, f, none⟩ = false

/-- The layout with it. -/
def Lay.add (L : Lay) (x a hb ib hc ic : Nat) : Lay := { L with
  adr := fun y => if y = x then a else L.adr y
  hb := fun y => if y = x then hb else L.hb y
  hA := fun y => if y = x then some ⟨hb, 0, none⟩ else L.hA y
  hc := fun y => if y = x then hc else L.hc y
  ib := fun y => if y = x then ib else L.ib y
  iA := fun y => if y = x then some ⟨ib, 0, none⟩ else L.iA y
  ic := fun y => if y = x then ic else L.ic y
  dom := fun y => y = x ∨ L.dom y
  tag := fun b => if b = a then .ob x else if b = hb then .he x else if b = ib then .it x else L.tag b }

theorem Gr.Ok.more (h : G.Ok len S T) {s : Nat} (hs : s < len) : (G.more s).Ok len S T :=
  ⟨h.tab, fun a b ha hb => by have := h.root a b ha hb; show G.root a b ≤ G.n + 1; omega, fun x h1 h2 => by
    show (if x = G.n + 1 then s else G.sh x) < len
    split
    · exact hs
    · have h2 : x ≤ G.n + 1 := h2
      exact h.sh x h1 (by omega), fun x f h1 h2 h3 h4 => by
    have h2 : x ≤ G.n + 1 := h2
    show 0 ≤ (if x = G.n + 1 then 0 else G.fl x f) ∧ (if x = G.n + 1 then (0 : Int) else G.fl x f) ≤ ((G.n + 1 : Nat) : Int)
    by_cases e : x = G.n + 1
    · rw [if_pos e]; omega
    · rw [if_neg e]
      have e2 : (G.more s).sh x = G.sh x := if_neg e
      rw [e2] at h3 h4
      have := h.ptr x f h1 (by omega) h3 h4
      omega⟩

/-- Another object. -/
theorem IsG.more (h : IsG T sp len S w L G md) {n0 a hb ib hc ic s : Nat} (hs : s < len) (hn : ∀ b, L.own b → b < n0) (hsn : ∀ b, L.shA = some b → b.block < n0) (hN : NewObj n0 w a hb ib hc ic s (S s).size) :
    IsG T sp len S w (L.add (G.n + 1) a hb ib hc ic) (G.more s) md := by
  obtain ⟨d1, d2, d3, d4, d5, d6⟩ := hN.dis
  have ht : ∀ b, L.tag b ≠ .no → (L.add (G.n + 1) a hb ib hc ic).tag b = L.tag b := fun b h1 => by
    have := hn b h1
    show (if b = a then Tg.ob (G.n + 1) else if b = hb then .he (G.n + 1) else if b = ib then .it (G.n + 1) else L.tag b) = _
    rw [if_neg (by omega), if_neg (by omega), if_neg (by omega)]
  have hptr : ∀ k, k = 0 ∨ L.dom k → (L.add (G.n + 1) a hb ib hc ic).ptr k = L.ptr k := fun k hk => by
    unfold Lay.ptr
    by_cases e : k = 0
    · rw [if_pos e, if_pos e]
    · rw [if_neg e, if_neg e]
      have hd := (h.obj k (hk.resolve_left e)).num.2
      show Value.pointer (some ⟨(if k = G.n + 1 then a else L.adr k), 0, none⟩) = _
      rw [if_neg (by omega)]
  refine ⟨h.ok.more hs, h.c0, h.c1, h.c2, h.c3, h.c4, h.f4, (ht L.g (by rw [h.tg]; simp)).trans h.tg, (ht L.rb (by rw [h.tr]; simp)).trans h.tr, h.shp, fun b hb' => ?_, fun t' s' h1 h2 => ?_, fun t' s' h1 h2 => ?_, fun x hx => ?_, fun b hb' => ?_, h.one⟩
  · have h1 := hsn b hb'
    show (if b.block = a then Tg.ob (G.n + 1) else if b.block = hb then .he (G.n + 1) else if b.block = ib then .it (G.n + 1) else L.tag b.block) = _
    rw [if_neg (by omega), if_neg (by omega), if_neg (by omega)]
    exact h.shn b hb'
  · show w.cell? ⟨L.rb, _, none⟩ = some ((L.add (G.n + 1) a hb ib hc ic).ptr (G.root t' s')) ∧ _
    rw [hptr _ (h.rinn t' s' h1 h2)]
    exact h.root t' s' h1 h2
  · exact (h.rinn t' s' h1 h2).imp id .inr
  · by_cases e : x = G.n + 1
    · subst e
      have esh : (G.more s).sh (G.n + 1) = s := if_pos rfl
      have ea : (L.add (G.n + 1) a hb ib hc ic).adr (G.n + 1) = a := if_pos rfl
      have eh : (L.add (G.n + 1) a hb ib hc ic).hb (G.n + 1) = hb := if_pos rfl
      have ei : (L.add (G.n + 1) a hb ib hc ic).ib (G.n + 1) = ib := if_pos rfl
      have ehA : (L.add (G.n + 1) a hb ib hc ic).hA (G.n + 1) = some ⟨hb, 0, none⟩ := if_pos rfl
      have eiA : (L.add (G.n + 1) a hb ib hc ic).iA (G.n + 1) = some ⟨ib, 0, none⟩ := if_pos rfl
      have ehc : (L.add (G.n + 1) a hb ib hc ic).hc (G.n + 1) = hc := if_pos rfl
      have eic : (L.add (G.n + 1) a hb ib hc ic).ic (G.n + 1) = ic := if_pos rfl
      have efl : ∀ f, (G.more s).fl (G.n + 1) f = 0 := fun f => if_pos rfl
      have ehd : ∀ f, (G.more s).held S (G.n + 1) f = 0 := fun f => by unfold Gr.held; rw [efl]; split <;> rfl
      have ein : ∀ f, (G.more s).ints S (G.n + 1) f = 0 := fun f => by unfold Gr.ints; rw [efl]; split <;> rfl
      have ta : (L.add (G.n + 1) a hb ib hc ic).tag a = .ob (G.n + 1) := if_pos rfl
      have th : (L.add (G.n + 1) a hb ib hc ic).tag hb = .he (G.n + 1) := by
        show (if hb = a then Tg.ob (G.n + 1) else if hb = hb then .he (G.n + 1) else if hb = ib then .it (G.n + 1) else L.tag hb) = _
        rw [if_neg (by omega), if_pos rfl]
      have ti : (L.add (G.n + 1) a hb ib hc ic).tag ib = .it (G.n + 1) := by
        show (if ib = a then Tg.ob (G.n + 1) else if ib = hb then .he (G.n + 1) else if ib = ib then .it (G.n + 1) else L.tag ib) = _
        rw [if_neg (by omega), if_neg (by omega), if_pos rfl]
      refine ⟨⟨by omega, Nat.le_refl _⟩, by rw [ea]; exact hN.cells, by rw [ea, esh]; exact hN.c0, by rw [ea, esh, ehA, ehc]; exact hN.c1, by rw [ea, esh, eiA, eic]; exact hN.c2, by rw [ea]; exact ta, fun _ => ⟨by rw [ehA, eh], by rw [eiA, ei], by rw [eh]; exact th, by rw [ei]; exact ti⟩, fun f hf => ?_, fun f hf => ?_, fun f hf => .inl (ehd f)⟩
      · rw [esh] at hf
        rw [eh, ehd]
        exact hN.held f hf
      · rw [esh] at hf
        rw [ei, ein]
        exact hN.ints f hf
    · have hd : L.dom x := hx.resolve_left e
      have ho := h.obj x hd
      have esh : (G.more s).sh x = G.sh x := if_neg e
      have ea : (L.add (G.n + 1) a hb ib hc ic).adr x = L.adr x := if_neg e
      have eh : (L.add (G.n + 1) a hb ib hc ic).hb x = L.hb x := if_neg e
      have ei : (L.add (G.n + 1) a hb ib hc ic).ib x = L.ib x := if_neg e
      have ehA : (L.add (G.n + 1) a hb ib hc ic).hA x = L.hA x := if_neg e
      have eiA : (L.add (G.n + 1) a hb ib hc ic).iA x = L.iA x := if_neg e
      have ehc : (L.add (G.n + 1) a hb ib hc ic).hc x = L.hc x := if_neg e
      have eic : (L.add (G.n + 1) a hb ib hc ic).ic x = L.ic x := if_neg e
      have efl : ∀ f, (G.more s).fl x f = G.fl x f := fun f => if_neg e
      have ehd : ∀ f, (G.more s).held S x f = G.held S x f := fun f => by unfold Gr.held; rw [efl, esh]
      have ein : ∀ f, (G.more s).ints S x f = G.ints S x f := fun f => by unfold Gr.ints; rw [efl, esh]
      refine ⟨⟨ho.num.1, Nat.le_trans ho.num.2 (Nat.le_succ _)⟩, by rw [ea]; exact ho.cells, by rw [ea, esh]; exact ho.c0, by rw [ea, esh, ehA, ehc]; exact ho.c1, by rw [ea, esh, eiA, eic]; exact ho.c2, by rw [ea, ht _ (by rw [ho.tag]; simp)]; exact ho.tag, fun hp => ?_, fun f hf => ?_, fun f hf => ?_, fun f hf => ?_⟩
      · rw [esh] at hp
        obtain ⟨p1, p2, p3, p4⟩ := ho.pos hp
        exact ⟨by rw [ehA, eh]; exact p1, by rw [eiA, ei]; exact p2, by rw [eh, ht _ (by rw [p3]; simp)]; exact p3, by rw [ei, ht _ (by rw [p4]; simp)]; exact p4⟩
      · rw [esh] at hf
        rw [eh, ehd, hptr _ (ho.inn f hf)]
        exact ho.held f hf
      · rw [esh] at hf
        rw [ei, ein]
        exact ho.ints f hf
      · rw [esh] at hf
        rw [ehd]
        exact (ho.inn f hf).imp id .inr
  · have hb' : (if b = a then Tg.ob (G.n + 1) else if b = hb then .he (G.n + 1) else if b = ib then .it (G.n + 1) else L.tag b) ≠ .no := hb'
    by_cases e1 : b = a
    · rw [e1]; exact hN.lt.1
    by_cases e2 : b = hb
    · rw [e2]; exact hN.lt.2.1
    by_cases e3 : b = ib
    · rw [e3]; exact hN.lt.2.2
    rw [if_neg e1, if_neg e2, if_neg e3] at hb'
    exact h.lt b hb'
end
end Go.Proofs.Ytbkaopeajjechaa
