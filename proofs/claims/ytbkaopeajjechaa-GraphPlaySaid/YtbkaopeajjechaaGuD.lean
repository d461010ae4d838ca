/- Several graphs side by side in memory, and boxes besides: what New, Do and Copy do to them. No walk in sight. The laws of layer 9: lists of operations opened, the graph behind them. -/
import Derived.Test.YtbkaopeajjechaaGsA
import Derived.Test.YtbkaopeajjechaaGuA
import Derived.Test.YtbkaopeajjechaaGuC
import Derived.Test.YtbkaopeajjechaaGrY
import Derived.Test.YtbkaopeajjechaaOp
namespace Go.Proofs.Ytbkaopeajjechaa
set_option linter.unusedVariables false
set_option linter.unusedSimpArgs false
open Go.RowKit Go.Maps

def updG {α : Type} (f : Nat → α) (i : Nat) (v : α) : Nat → α := fun j => if j = i then v else f j
theorem updG_same {α : Type} (f : Nat → α) (i : Nat) (v : α) : updG f i v i = v := if_pos rfl
theorem updG_other {α : Type} (f : Nat → α) {i j : Nat} (v : α) (h : j ≠ i) : updG f i v j = f j := if_neg h

structure StL (T : Nat) (sp : Int) (len : Nat) (S : Nat → ByteArray) (w w' : World) (m : Nat) (Lf : Nat → Lay) (gf : Nat → Nat) (Gf : Nat → Gr) (l : List (Nat × Obj)) : Prop where
  g : ∀ i, i < m → IsG T sp len S w' (Lf i) (Gf i) ((Gf i).n : Nat)
  adr : ∀ i, i < m → (Lf i).g = gf i
  dis : ∀ i j, i < m → j < m → i ≠ j → ∀ b, (Lf i).own b → ¬ (Lf j).own b
  sh : ∀ i j, i < m → j < m → (Lf i).shA = (Lf j).shA
  b : Below w.heap.size w w'
  base : ∀ i, i < m → ∀ b, (Lf i).own b → w.heap.size ≤ b
  outs : ∀ q, q ∈ l → w'.heap[q.1]? = some q.2 ∧ ∀ i, i < m → ¬ (Lf i).own q.1

/-- From w on: so many graphs, where they are, what they hold; boxes. -/
def St (T : Nat) (sp : Int) (len : Nat) (S : Nat → ByteArray) (w w' : World) (m : Nat) (gf : Nat → Nat) (Gf : Nat → Gr) (l : List (Nat × Obj)) : Prop := ∃ Lf, StL T sp len S w w' m Lf gf Gf l

section
variable {T : Nat} {sp : Int} {len : Nat} {S : Nat → ByteArray} {w w' w1 W : World} {m : Nat} {gf : Nat → Nat} {Gf : Nat → Gr} {l : List (Nat × Obj)}

theorem St.b (h : St T sp len S w w' m gf Gf l) : Below w.heap.size w w' := h.choose_spec.b
theorem St.ok (h : St T sp len S w w' m gf Gf l) {i : Nat} (hi : i < m) : (Gf i).Ok len S T := (h.choose_spec.g i hi).ok
theorem St.one (h : St T sp len S w w' m gf Gf l) {i : Nat} (hi : i < m) : 1 ≤ T ∧ T ≤ 8 := (h.choose_spec.g i hi).one
theorem St.isG (h : St T sp len S w w' m gf Gf l) {i : Nat} (hi : i < m) : ∃ L : Lay, L.g = gf i ∧ IsG T sp len S w' L (Gf i) ((Gf i).n : Nat) := ⟨_, h.choose_spec.adr i hi, h.choose_spec.g i hi⟩

theorem St.below (h : St T sp len S w w' m gf Gf l) (hb : Below w'.heap.size w' W) : St T sp len S w W m gf Gf l := by
  obtain ⟨Lf, h⟩ := h
  exact ⟨Lf, fun i hi => (h.g i hi).below hb, h.adr, h.dis, h.sh, h.b.trans (hb.mono h.b.size), h.base, fun q hq => ⟨(hb.block _ (Array.getElem?_eq_some_iff.1 (h.outs q hq).1).1).trans (h.outs q hq).1, (h.outs q hq).2⟩⟩

theorem St.more (h : St T sp len S w w' m gf Gf l) {l2 : List (Nat × Obj)} (hl : ∀ q, q ∈ l2 → q ∈ l) : St T sp len S w w' m gf Gf l2 := by
  obtain ⟨Lf, h⟩ := h
  exact ⟨Lf, h.g, h.adr, h.dis, h.sh, h.b, h.base, fun q hq => h.outs q (hl q hq)⟩

theorem St.box (h : St T sp len S w w' m gf Gf l) (c : Array Value) (t : TypeId) : St T sp len S w (w'.alloc (.cells c t)) m gf Gf ((w'.heap.size, .cells c t (0, 0)) :: l) := by
  have hb : Below w'.heap.size w' (w'.alloc (.cells c t)) := (Below.refl _ _).alloc (Nat.le_refl _) _
  obtain ⟨Lf, h⟩ := h
  refine ⟨Lf, fun i hi => (h.g i hi).below hb, h.adr, h.dis, h.sh, h.b.trans (hb.mono h.b.size), h.base, fun q hq => ?_⟩
  rcases List.mem_cons.1 hq with rfl | hq
  · exact ⟨(MapKept.heap_alloc w' _).1, fun i hi ho => by have := (h.g i hi).lt _ ho; simp at this⟩
  · exact ⟨(hb.block _ (Array.getElem?_eq_some_iff.1 (h.outs q hq).1).1).trans (h.outs q hq).1, (h.outs q hq).2⟩

theorem St.cell (h : St T sp len S w w' m gf Gf l) {b : Nat} {c : Array Value} {t : TypeId} (hm : (b, Obj.cells c t (0, 0)) ∈ l) (j : Nat) : w'.cell? ⟨b, j, none⟩ = c[j]? := by
  rw [Lib.cell_of_heap (h.choose_spec.outs _ hm).1]

theorem St.lt (h : St T sp len S w w' m gf Gf l) {q : Nat × Obj} (hm : q ∈ l) : q.1 < w'.heap.size := (Array.getElem?_eq_some_iff.1 (h.choose_spec.outs _ hm).1).1

theorem st_new {A : Option Addr} {cap : Nat} (hb : Below w.heap.size w w1) (H : ShOk w1 A len S) (hok : okPB T sp len S = true) :
    Calls Try.prog 10 #[.agg #[.int .i64 T, .int .i64 sp, .slice A len cap]] w1 fun e w' => ∃ g, e = .returned (.tuple #[.pointer (some ⟨g, 0, none⟩), .int .i64 0]) ∧ St T sp len S w w' 1 (fun _ => g) (fun _ => Gr.new) [] := by
  refine (new_ok A cap w1 H hok).mono ?_
  rintro e w' ⟨L, he, hg, hb2, ho, _⟩
  refine ⟨L.g, he, fun _ => L, fun i _ => hg, fun _ _ => rfl, fun i j hi hj hn => by omega, fun _ _ _ _ => rfl, hb.trans (hb2.mono hb.size), fun i _ b hb' => ?_, fun q hq => by cases hq⟩
  have := ho b hb'
  have := hb.size
  omega

theorem st_do (h : St T sp len S w w1 m gf Gf l) {i g : Nat} (hi : i < m) (hg : gf i = g) (hn : (Gf i).n ≤ 1000000) (t : Int) (z : Nat → Int) :
    Calls Try.prog 14 #[.pointer (some ⟨g, 0, none⟩), .int .i64 t, opV z] w1 fun e w' =>
      e = .returned (.tuple #[.agg #[.int .i64 ((Gf i).aE len S T t z), .bool ((Gf i).aI len S T t z), .int .i64 ((Gf i).aV len S T t z)], .int .i64 (aF T t)]) ∧ St T sp len S w w' m gf (updG Gf i ((Gf i).go len S T t z)) l := by
  obtain ⟨Lf, h⟩ := h
  subst hg
  rw [← h.adr i hi]
  have hG := h.g i hi
  refine (do_any hG (by have := hG.ok.tab.2.1; omega) (fun k hk => by have := (hG.ok.tab.2.2 k hk).1; omega) (by omega) t z).mono ?_
  rintro e w' ⟨rfl, ⟨L', hE, hG'⟩, hC⟩
  have hz := hC.size
  have hz0 := h.b.size
  have hlt : ∀ j, j < m → ∀ b, (Lf j).own b → b < w1.heap.size := fun j hj b hb => (h.g j hj).lt b hb
  refine ⟨rfl, updG Lf i L', fun j hj => ?_, fun j hj => ?_, fun j k hj hk hjk b hb hb2 => ?_, fun j k hj hk => ?_, Chg.then_below h.b hC (h.base i hi) hz0, fun j hj b hb => ?_, fun q hq => ?_⟩
  · by_cases e : j = i
    · subst e
      rw [updG_same, updG_same]
      exact hG'
    · rw [updG_other _ _ e, updG_other _ _ e]
      refine (h.g j hj).keep hC (fun b hb => h.dis j i hj hi e b hb) (fun b hb => ?_)
      rw [h.sh j i hj hi] at hb
      have := hG.shn b hb
      unfold Lay.own
      rw [this]
      simp
  · by_cases e : j = i
    · subst e
      rw [updG_same, hE.g]
      exact h.adr j hj
    · rw [updG_other _ _ e]
      exact h.adr j hj
  · by_cases e1 : j = i
    · subst e1
      rw [updG_same] at hb
      rw [updG_other _ _ (Ne.symm hjk)] at hb2
      rcases hE.own b hb with h1 | h1
      · exact h.dis j k hj hk hjk b h1 hb2
      · have := hlt k hk b hb2
        omega
    · rw [updG_other _ _ e1] at hb
      by_cases e2 : k = i
      · subst e2
        rw [updG_same] at hb2
        rcases hE.own b hb2 with h1 | h1
        · exact h.dis j k hj hk hjk b hb h1
        · have := hlt j hj b hb
          omega
      · rw [updG_other _ _ e2] at hb2
        exact h.dis j k hj hk hjk b hb hb2
  · have h1 : ∀ j, j < m → (updG Lf i L' j).shA = (Lf j).shA := fun j hj => by
      by_cases e : j = i
      · subst e
        rw [updG_same]
        exact hE.sh.1
      · rw [updG_other _ _ e]
    rw [h1 j hj, h1 k hk]
    exact h.sh j k hj hk
  · by_cases e : j = i
    · subst e
      rw [updG_same] at hb
      rcases hE.own b hb with h1 | h1
      · exact h.base j hj b h1
      · omega
    · rw [updG_other _ _ e] at hb
      exact h.base j hj b hb
  · obtain ⟨h1, h2⟩ := h.outs q hq
    have hl := (Array.getElem?_eq_some_iff.1 h1).1
    refine ⟨(hC.block _ hl (h2 i hi)).trans h1, fun j hj hb => ?_⟩
    by_cases e : j = i
    · subst e
      rw [updG_same] at hb
      rcases hE.own _ hb with h3 | h3
      · exact h2 j hj h3
      · omega
    · rw [updG_other _ _ e] at hb
      exact h2 j hj hb

end
end Go.Proofs.Ytbkaopeajjechaa

namespace Go.Proofs.Ytbkaopeajjechaa
open Go.RowKit Go.Maps

theorem calls_gen {P : Program} {f : Nat} {a : Array Value} {w : World} {Q : Ending → World → Prop} (h : ∀ W, W = w → Calls P f a W Q) : Calls P f a w Q := h w rfl

/-- Operations of threads: a thread, then the operation's eight numbers. -/
def ActOk (w : World) (A : Option Addr) (len : Nat) (zv : Nat → Nat → Int) : Prop :=
  0 < len → ∃ b o, A = some ⟨b, o, none⟩ ∧ b < w.heap.size ∧ ∀ i, i < len → ∀ j, j < 9 → w.cell? ⟨b, o + i * 9 + j, none⟩ = some (.int .i64 (zv i j))

theorem ActOk.keep {w W : World} {A : Option Addr} {len : Nat} {zv : Nat → Nat → Int} (H : ActOk w A len zv) (hb : Below w.heap.size w W) : ActOk W A len zv := fun h => by
  obtain ⟨b, o, hA, hl, hc⟩ := H h
  exact ⟨b, o, hA, Nat.lt_of_lt_of_le hl hb.size, fun i hi j hj => (hb.cell (p := ⟨b, _, none⟩) hl).trans (hc i hi j hj)⟩

theorem ActOk.of_row {w : World} {n : Nat} {A : Option Addr} {len cap : Nat} (h : RowOk w n [.int .i64, .int .i64, .int .i64, .int .i64, .int .i64, .int .i64, .int .i64, .int .i64, .int .i64] A len cap) : ∃ zv, ActOk w A len zv := by
  obtain ⟨b, o, z, hA, hc⟩ := h.intN [.i64, .i64, .i64, .i64, .i64, .i64, .i64, .i64, .i64]
  refine ⟨z, fun hl => ⟨b, o, (hA hl).1, (hA hl).2, fun i hi j hj => ?_⟩⟩
  obtain rfl | rfl | rfl | rfl | rfl | rfl | rfl | rfl | rfl : j = 0 ∨ j = 1 ∨ j = 2 ∨ j = 3 ∨ j = 4 ∨ j = 5 ∨ j = 6 ∨ j = 7 ∨ j = 8 := by omega
  · exact (hc i hi 0 .i64 rfl).1
  · exact (hc i hi 1 .i64 rfl).1
  · exact (hc i hi 2 .i64 rfl).1
  · exact (hc i hi 3 .i64 rfl).1
  · exact (hc i hi 4 .i64 rfl).1
  · exact (hc i hi 5 .i64 rfl).1
  · exact (hc i hi 6 .i64 rfl).1
  · exact (hc i hi 7 .i64 rfl).1
  · exact (hc i hi 8 .i64 rfl).1

/-- An operation's numbers of the list's. -/
def opz (zv : Nat → Nat → Int) (i : Nat) : Nat → Int := fun j => zv i (j + 1)
/-- The graph behind so many operations. -/
noncomputable def runG (len : Nat) (S : Nat → ByteArray) (T : Nat) (zv : Nat → Nat → Int) : Nat → Gr
  | 0 => Gr.new
  | i + 1 => (runG len S T zv i).go len S T (zv i 0) (opz zv i)

theorem runG_n (len : Nat) (S : Nat → ByteArray) (T : Nat) (zv : Nat → Nat → Int) : ∀ i, (runG len S T zv i).n ≤ i + 1
  | 0 => Nat.le_refl _
  | i + 1 => by
    have h := runG_n len S T zv i
    have := (Gr.go_n (len := len) (S := S) (T := T) (runG len S T zv i) (zv i 0) (opz zv i)).1
    show ((runG len S T zv i).go len S T (zv i 0) (opz zv i)).n ≤ i + 1 + 1
    omega

theorem st_doz {T : Nat} {sp : Int} {len : Nat} {S : Nat → ByteArray} {w w1 : World} {m : Nat} {gf : Nat → Nat} {Gf : Nat → Gr} {l : List (Nat × Obj)} (h : St T sp len S w w1 m gf Gf l) {i g : Nat} (hi : i < m) (hg : gf i = g) (hn : (Gf i).n ≤ 1000000) (t : Int) (z : Nat → Int) {o : Value} (ho : opV z = o) :
    Calls Try.prog 14 #[.pointer (some ⟨g, 0, none⟩), .int .i64 t, o] w1 fun e w' =>
      e = .returned (.tuple #[.agg #[.int .i64 ((Gf i).aE len S T t z), .bool ((Gf i).aI len S T t z), .int .i64 ((Gf i).aV len S T t z)], .int .i64 (aF T t)]) ∧ St T sp len S w w' m gf (updG Gf i ((Gf i).go len S T t z)) l := by
  subst ho
  exact st_do h hi hg hn t z

/-- What Do answers. -/
noncomputable def ansV (len : Nat) (S : Nat → ByteArray) (T : Nat) (G : Gr) (t : Int) (z : Nat → Int) : Value := .agg #[.int .i64 (G.aE len S T t z), .bool (G.aI len S T t z), .int .i64 (G.aV len S T t z)]
noncomputable abbrev ansC (len : Nat) (S : Nat → ByteArray) (T : Nat) (G : Gr) (t : Int) (z : Nat → Int) : Array Value := #[.int .i64 (G.aE len S T t z), .bool (G.aI len S T t z), .int .i64 (G.aV len S T t z)]

def tri {α : Type} (a b c : α) : Nat → α
  | 0 => a
  | 1 => b
  | _ => c

section
variable {T : Nat} {sp : Int} {len : Nat} {S : Nat → ByteArray} {w w1 : World} {l : List (Nat × Obj)} {g ga gh : Nat} {G Ga Gh : Gr}

theorem St.congr {m : Nat} {gf gf' : Nat → Nat} {Gf Gf' : Nat → Gr} (h : St T sp len S w w1 m gf Gf l) (h1 : ∀ i, i < m → gf' i = gf i) (h2 : ∀ i, i < m → Gf' i = Gf i) : St T sp len S w w1 m gf' Gf' l := by
  obtain ⟨Lf, h⟩ := h
  exact ⟨Lf, fun i hi => by rw [h2 i hi]; exact h.g i hi, fun i hi => by rw [h1 i hi]; exact h.adr i hi, h.dis, h.sh, h.b, h.base, h.outs⟩

/-- One graph, two, three side by side. -/
def St1 (T : Nat) (sp : Int) (len : Nat) (S : Nat → ByteArray) (w w1 : World) (g : Nat) (G : Gr) (l : List (Nat × Obj)) : Prop := St T sp len S w w1 1 (tri g g g) (tri G G G) l
def St2 (T : Nat) (sp : Int) (len : Nat) (S : Nat → ByteArray) (w w1 : World) (g ga : Nat) (G Ga : Gr) (l : List (Nat × Obj)) : Prop := St T sp len S w w1 2 (tri g ga ga) (tri G Ga Ga) l
def St3 (T : Nat) (sp : Int) (len : Nat) (S : Nat → ByteArray) (w w1 : World) (g ga gh : Nat) (G Ga Gh : Gr) (l : List (Nat × Obj)) : Prop := St T sp len S w w1 3 (tri g ga gh) (tri G Ga Gh) l

theorem st1_new {A : Option Addr} {cap : Nat} (hb : Below w.heap.size w w1) (H : ShOk w1 A len S) (hok : okPB T sp len S = true) :
    Calls Try.prog 10 #[.agg #[.int .i64 T, .int .i64 sp, .slice A len cap]] w1 fun e w' => ∃ g, e = .returned (.tuple #[.pointer (some ⟨g, 0, none⟩), .int .i64 0]) ∧ St1 T sp len S w w' g Gr.new [] := by
  refine (st_new hb H hok).mono ?_
  rintro e w' ⟨g, he, hs⟩
  exact ⟨g, he, hs.congr (fun i hi => by obtain rfl : i = 0 := by omega
                                         rfl) (fun i hi => by obtain rfl : i = 0 := by omega
                                                              rfl)⟩

theorem st1_do (h : St1 T sp len S w w1 g G l) (hn : G.n ≤ 1000000) (t : Int) (z : Nat → Int) {o : Value} (ho : opV z = o) :
    Calls Try.prog 14 #[.pointer (some ⟨g, 0, none⟩), .int .i64 t, o] w1 fun e w' =>
      e = .returned (.tuple #[.agg (ansC len S T G t z), .int .i64 (aF T t)]) ∧ St1 T sp len S w w' g (G.go len S T t z) l := by
  refine (st_doz h (i := 0) (by omega) rfl hn t z ho).mono ?_
  rintro e w' ⟨he, hs⟩
  exact ⟨he, hs.congr (fun i hi => rfl) (fun i hi => by obtain rfl : i = 0 := by omega
                                                        rfl)⟩
theorem st2_do0 (h : St2 T sp len S w w1 g ga G Ga l) (hn : G.n ≤ 1000000) (t : Int) (z : Nat → Int) {o : Value} (ho : opV z = o) :
    Calls Try.prog 14 #[.pointer (some ⟨g, 0, none⟩), .int .i64 t, o] w1 fun e w' =>
      e = .returned (.tuple #[.agg (ansC len S T G t z), .int .i64 (aF T t)]) ∧ St2 T sp len S w w' g ga (G.go len S T t z) Ga l := by
  refine (st_doz h (i := 0) (by omega) rfl hn t z ho).mono ?_
  rintro e w' ⟨he, hs⟩
  exact ⟨he, hs.congr (fun i hi => rfl) (fun i hi => by obtain rfl | rfl : i = 0 ∨ i = 1 := by omega
                                                        all_goals rfl)⟩
theorem st2_do1 (h : St2 T sp len S w w1 g ga G Ga l) (hn : Ga.n ≤ 1000000) (t : Int) (z : Nat → Int) {o : Value} (ho : opV z = o) :
    Calls Try.prog 14 #[.pointer (some ⟨ga, 0, none⟩), .int .i64 t, o] w1 fun e w' =>
      e = .returned (.tuple #[.agg (ansC len S T Ga t z), .int .i64 (aF T t)]) ∧ St2 T sp len S w w' g ga G (Ga.go len S T t z) l := by
  refine (st_doz h (i := 1) (by omega) rfl hn t z ho).mono ?_
  rintro e w' ⟨he, hs⟩
  exact ⟨he, hs.congr (fun i hi => rfl) (fun i hi => by obtain rfl | rfl : i = 0 ∨ i = 1 := by omega
                                                        all_goals rfl)⟩
theorem st3_do0 (h : St3 T sp len S w w1 g ga gh G Ga Gh l) (hn : G.n ≤ 1000000) (t : Int) (z : Nat → Int) {o : Value} (ho : opV z = o) :
    Calls Try.prog 14 #[.pointer (some ⟨g, 0, none⟩), .int .i64 t, o] w1 fun e w' =>
      e = .returned (.tuple #[.agg (ansC len S T G t z), .int .i64 (aF T t)]) ∧ St3 T sp len S w w' g ga gh (G.go len S T t z) Ga Gh l := by
  refine (st_doz h (i := 0) (by omega) rfl hn t z ho).mono ?_
  rintro e w' ⟨he, hs⟩
  exact ⟨he, hs.congr (fun i hi => rfl) (fun i hi => by obtain rfl | rfl | rfl : i = 0 ∨ i = 1 ∨ i = 2 := by omega
                                                        all_goals rfl)⟩
theorem st3_do1 (h : St3 T sp len S w w1 g ga gh G Ga Gh l) (hn : Ga.n ≤ 1000000) (t : Int) (z : Nat → Int) {o : Value} (ho : opV z = o) :
    Calls Try.prog 14 #[.pointer (some ⟨ga, 0, none⟩), .int .i64 t, o] w1 fun e w' =>
      e = .returned (.tuple #[.agg (ansC len S T Ga t z), .int .i64 (aF T t)]) ∧ St3 T sp len S w w' g ga gh G (Ga.go len S T t z) Gh l := by
  refine (st_doz h (i := 1) (by omega) rfl hn t z ho).mono ?_
  rintro e w' ⟨he, hs⟩
  exact ⟨he, hs.congr (fun i hi => rfl) (fun i hi => by obtain rfl | rfl | rfl : i = 0 ∨ i = 1 ∨ i = 2 := by omega
                                                        all_goals rfl)⟩
theorem st3_do2 (h : St3 T sp len S w w1 g ga gh G Ga Gh l) (hn : Gh.n ≤ 1000000) (t : Int) (z : Nat → Int) {o : Value} (ho : opV z = o) :
    Calls Try.prog 14 #[.pointer (some ⟨gh, 0, none⟩), .int .i64 t, o] w1 fun e w' =>
      e = .returned (.tuple #[.agg (ansC len S T Gh t z), .int .i64 (aF T t)]) ∧ St3 T sp len S w w' g ga gh G Ga (Gh.go len S T t z) l := by
  refine (st_doz h (i := 2) (by omega) rfl hn t z ho).mono ?_
  rintro e w' ⟨he, hs⟩
  exact ⟨he, hs.congr (fun i hi => rfl) (fun i hi => by obtain rfl | rfl | rfl : i = 0 ∨ i = 1 ∨ i = 2 := by omega
                                                        all_goals rfl)⟩
end
end Go.Proofs.Ytbkaopeajjechaa
