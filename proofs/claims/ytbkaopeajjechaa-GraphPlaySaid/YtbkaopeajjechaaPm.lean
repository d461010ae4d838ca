/- Maps whose keys are pointers to blocks of cells: looked up and written, exactly. No program in sight. -/
import Derived.Test.YtbkaopeajjechaaLk
import Derived.LaidEqlPtr
import Derived.Maps.Own
namespace Go.Proofs.Ytbkaopeajjechaa
set_option linter.unusedVariables false
set_option linter.unusedSimpArgs false
open Go.RowKit

/-- A block of cells that nobody has frozen or looks at. -/
def IsCells (w : World) (a : Nat) : Prop := ∃ c t, w.heap[a]? = some (.cells c t (0, 0))

theorem IsCells.keep {w W : World} {a : Nat} (h : IsCells w a) (hb : Below w.heap.size w W) : IsCells W a := by
  obtain ⟨c, t, h⟩ := h
  have hl : a < w.heap.size := by
    rcases Nat.lt_or_ge a w.heap.size with h' | h'
    · exact h'
    · rw [Array.getElem?_eq_none h'] at h; cases h
  exact ⟨c, t, (hb.block a hl).trans h⟩

abbrev pt (a : Nat) : Value := .pointer (some ⟨a, 0, none⟩)

section
variable {P : Program} {w : World} {tp te : TypeId} {j : TypeInfo}

theorem run_equal_pt (hp : P.underlying tp = some (.pointer te)) (hte : P.info? te = some j) (hsz : j.size ≠ 0) {a b : Nat} (ha : IsCells w a) (hb : IsCells w b) :
    (Op.equal tp (pt a) (pt b)).run P w = .ok (decide (a = b)) w := by
  by_cases e : a = b
  · subst e
    have h : ∀ d : Nat, (Op.equalIn (d + 1) tp (pt a) (pt a)).run P w = .ok true w := fun d => by
      simp [Op.equalIn, run_underlying hp, sizeOf, typeInfo, hte, run_sameAddr_same]
    simp [Op.equal, Op.maxDepth, h 9999]
  · obtain ⟨ca, ta, ha⟩ := ha
    obtain ⟨cb, tb, hb⟩ := hb
    have hne : (⟨a, 0, none⟩ : Addr) ≠ ⟨b, 0, none⟩ := fun h => e (by injection h)
    have h : ∀ d : Nat, (Op.equalIn (d + 1) tp (pt a) (pt b)).run P w = .ok false w := fun d => by
      simp [Op.equalIn, run_underlying hp, sizeOf, typeInfo, hte, hsz, run_sameAddr_other w hne ha hb]
    simp [Op.equal, Op.maxDepth, h 9999, e]

/-- Where a key stands, and what it holds. -/
def lookI (a : Nat) : List (Nat × Value) → Nat → Option (Nat × Value)
  | [], _ => none
  | x :: r, i => if a = x.1 then some (i, x.2) else lookI a r (i + 1)

def entryAt (i : Nat) (x : Nat × Value) : MapEntry := ⟨pt x.1, x.2, i⟩
/-- The entries of a map that was filled in this order. -/
def entriesFrom : List (Nat × Value) → Nat → List MapEntry
  | [], _ => []
  | x :: r, i => entryAt i x :: entriesFrom r (i + 1)

theorem run_findAsking_pt (hp : P.underlying tp = some (.pointer te)) (hte : P.info? te = some j) (hsz : j.size ≠ 0) {a : Nat} (ha : IsCells w a) :
    ∀ (L : List (Nat × Value)) (i : Nat), (∀ x ∈ L, IsCells w x.1) → (Instr.findAsking tp (pt a) (entriesFrom L i) i).run P w = .ok (lookI a L i) w
  | [], i, _ => rfl
  | x :: r, i, h => by
    have he := run_equal_pt hp hte hsz ha (h x (by simp))
    have hr := run_findAsking_pt hp hte hsz ha r (i + 1) (fun y hy => h y (by simp [hy]))
    unfold entriesFrom Instr.findAsking lookI entryAt
    simp only [Sem.run_bind, he, Result.andThen_ok]
    by_cases e : a = x.1
    · simp [e]
    · simp [e, hr]

theorem run_findKey_pt (hp : P.underlying tp = some (.pointer te)) (hte : P.info? te = some j) (hsz : j.size ≠ 0) {a : Nat} (ha : IsCells w a) (L : List (Nat × Value)) (hL : ∀ x ∈ L, IsCells w x.1) :
    (Instr.findKey tp (pt a) (entriesFrom L 0)).run P w = .ok (lookI a L 0) w := by
  unfold Instr.findKey
  simp only [Sem.run_bind, run_underlying hp, Result.andThen_ok]
  cases L with
  | nil => rfl
  | cons x r =>
    have h : Instr.findNow (.pointer te) (pt a) (entriesFrom (x :: r) 0) 0 = none := by
      unfold entriesFrom Instr.findNow entryAt
      rfl
    rw [h]
    exact run_findAsking_pt hp hte hsz ha (x :: r) 0 hL

theorem run_checkKey_pt (hp : P.underlying tp = some (.pointer te)) (em : Bool) (a : Nat) : (Instr.checkKey em 10000 tp (pt a)).run P w = .ok () w := by
  have h : ∀ n : Nat, (Instr.checkKey em (n + 1) tp (pt a)).run P w = .ok () w := fun n => by simp [Instr.checkKey, run_underlying hp]
  exact h 9999

/-- A map of pointers, filled in this order. -/
def PMap (w : World) (b : Nat) (L : List (Nat × Value)) : Prop := w.heap[b]? = some (.map (entriesFrom L 0).toArray L.length) ∧ ∀ x ∈ L, IsCells w x.1

theorem PMap.new (w : World) : PMap (w.alloc (.map #[] 0)) w.heap.size [] := ⟨(MapKept.heap_alloc w _).1, fun x hx => by cases hx⟩

theorem PMap.keep {w W : World} {b : Nat} {L : List (Nat × Value)} (h : PMap w b L) (hb : Below w.heap.size w W) : PMap W b L := by
  have hl : b < w.heap.size := by
    rcases Nat.lt_or_ge b w.heap.size with h' | h'
    · exact h'
    · have := h.1; rw [Array.getElem?_eq_none h'] at this; cases this
  exact ⟨(hb.block b hl).trans h.1, fun x hx => (h.2 x hx).keep hb⟩

/-- What a look-up tells. -/
def lookV (a : Nat) (L : List (Nat × Value)) (z : Value) : Value := match lookI a L 0 with
  | some (_, v) => v
  | none => z

theorem run_lookup_pt {tm tv : TypeId} {b a : Nat} {L : List (Nat × Value)} {z : Value} (hm : P.underlying tm = some (.map tp tv)) (hp : P.underlying tp = some (.pointer te)) (hte : P.info? te = some j) (hsz : j.size ≠ 0) (h : PMap w b L) (ha : IsCells w a) (hz : (zeroValue tv).run P w = .ok z w) :
    (Instr.lookup tm (.map (some b)) (pt a) false).run P w = .ok (lookV a L z) w := by
  have h1 := run_findKey_pt hp hte hsz ha L h.2
  have h2 := fun em => run_checkKey_pt (w := w) hp em a
  unfold lookV
  cases e : lookI a L 0 with
  | none =>
    rw [e] at h1
    simp [Instr.lookup, run_underlying hm, MapKept.run_getObj_map h.1, h2, h1, hz]
  | some x =>
    rw [e] at h1
    obtain ⟨i, v⟩ := x
    simp [Instr.lookup, run_underlying hm, MapKept.run_getObj_map h.1, h2, h1]

theorem entriesFrom_snoc (x : Nat × Value) : ∀ (L : List (Nat × Value)) (i : Nat), entriesFrom (L ++ [x]) i = entriesFrom L i ++ [entryAt (i + L.length) x]
  | [], i => rfl
  | y :: r, i => by
    have := entriesFrom_snoc x r (i + 1)
    simp only [List.cons_append, entriesFrom, this, List.length_cons]
    rw [show i + 1 + r.length = i + (r.length + 1) by omega]

theorem run_update_pt {tm tv : TypeId} {b a : Nat} {L : List (Nat × Value)} {v : Value} (hm : P.underlying tm = some (.map tp tv)) (hp : P.underlying tp = some (.pointer te)) (hte : P.info? te = some j) (hsz : j.size ≠ 0) (h : PMap w b L) (ha : IsCells w a) (hn : lookI a L 0 = none) :
    ∃ W, (Instr.mapUpdate tm (.map (some b)) (pt a) v).run P w = .ok () W ∧ PMap W b (L ++ [(a, v)]) ∧ w.grownBy W (some b) := by
  have h1 := run_findKey_pt hp hte hsz ha L h.2
  rw [hn] at h1
  have h2 := run_checkKey_pt (w := w) hp false a
  have hl : b < w.heap.size := by
    rcases Nat.lt_or_ge b w.heap.size with h' | h'
    · exact h'
    · have := h.1; rw [Array.getElem?_eq_none h'] at this; cases this
  refine ⟨ChangeMaps.setBlock w b (.map ((entriesFrom L 0).toArray.push ⟨pt a, v, L.length⟩) (L.length + 1)), ?_, ⟨?_, ?_⟩, ?_⟩
  · simp [Instr.mapUpdate, run_underlying hm, MapKept.run_getObj_map h.1, h2, h1, MapKept.run_setObj_map _ h.1, ChangeMaps.setBlock]
  · rw [ChangeMaps.setBlock]
    simp only [Array.getElem?_setIfInBounds, hl, if_true]
    rw [entriesFrom_snoc]
    simp [entryAt]
  · have hne : ∀ c, IsCells w c → IsCells (ChangeMaps.setBlock w b (.map ((entriesFrom L 0).toArray.push ⟨pt a, v, L.length⟩) (L.length + 1))) c := fun c hc => by
      obtain ⟨cs, t, e⟩ := hc
      have hcb : b ≠ c := fun e' => by subst e'; rw [h.1] at e; cases e
      exact ⟨cs, t, by rw [ChangeMaps.setBlock]; simp only [Array.getElem?_setIfInBounds_ne hcb]; exact e⟩
    intro x hx
    rcases List.mem_append.1 hx with hx | hx
    · exact hne _ (h.2 x hx)
    · obtain rfl : x = (a, v) := by simpa using hx
      exact hne _ ha
  · exact ⟨rfl, rfl, rfl, by simp [ChangeMaps.setBlock], fun i hi hne => by
      have hib : b ≠ i := fun e => hne (by rw [e])
      rw [ChangeMaps.setBlock]
      exact Array.getElem?_setIfInBounds_ne hib⟩
end
end Go.Proofs.Ytbkaopeajjechaa
