/- The laws of layer 9: lists of operations opened, the graph behind them. -/
import Derived.Test.YtbkaopeajjechaaGsG
import Derived.Test.YtbkaopeajjechaaGsH
import Derived.Test.YtbkaopeajjechaaOp
namespace Go.Proofs.Ytbkaopeajjechaa
set_option linter.unusedVariables false
set_option linter.unusedSimpArgs false
open Go.RowKit Go.Maps

theorem calls_gen {P : Program} {f : Nat} {a : Array Value} {w : World} {Q : Ending → World → Prop} (h : ∀ W, W = w → Calls P f a W Q) : Calls P f a w Q := h w rfl

/-- Operations of threads: a thread, then the operation's eight numbers. -/
def ActOk (w : World) (A : Option Addr) (len : Nat) (zv : Nat → Nat → Int) : Prop :=
  0 < len → ∃ b o, A = some ⟨b, o, none⟩ ∧ b < w.heap.size ∧ ∀ i, i < len → ∀ j, j < 9 → w.cell? ⟨b, o + i * 9 + j, none⟩ = some (.int .i64 (zv i j))

theorem ActOk.keep {w W : World} {A : Option Addr} {len : Nat} {zv : Nat → Nat → Int} (H : ActOk w A len zv) (hb : Below w.heap.size w W) : ActOk W A len zv := fun h => by
  obtain ⟨b, o, hA, hl, hc⟩ := H h
  exact ⟨b, o, hA, Nat.lt_of_lt_of_le hl hb.size, fun i hi j hj => (hb.cell (p := ⟨b, _, none⟩) hl).trans (hc i hi j hj)⟩

theorem ActOk.of_row {w : World} {n : Nat} {A : Option Addr} {len cap : Nat} (h : RowOk w n [.int .i64, .int .i64, .int .i64, .int .i64, .int .i64, .int .i64, .int .i64, .int .i64, .int .i64] A len cap) : ∃ zv, ActOk w A len zv := by
  obtain ⟨b, o, z, hA, hc⟩ := h.intN [.i64, .i64, .i64, .i64, .i64, .i64, .i64, .i64, .i64]
  refine ⟨z, fun hl => ⟨b, o, (hA hl).1, (hA hl).2, fun i hi j hj => ?_⟩⟩
  obtain rfl | rfl | rfl | rfl | rfl | rfl | rfl | rfl | rfl : j = 0 ∨ j = 1 ∨ j = 2 ∨ j = 3 ∨ j = 4 ∨ j = 5 ∨ j = 6 ∨ j = 7 ∨ j = 8 := by omega
  · exact (hc i hi 0 .i64 rfl).1
  · exact (hc i hi 1 .i64 rfl).1
  · exact (hc i hi 2 .i64 rfl).1
  · exact (hc i hi 3 .i64 rfl).1
  · exact (hc i hi 4 .i64 rfl).1
  · exact (hc i hi 5 .i64 rfl).1
  · exact (hc i hi 6 .i64 rfl).1
  · exact (hc i hi 7 .i64 rfl).1
  · exact (hc i hi 8 .i64 rfl).1

/-- An operation's numbers of the list's. -/
def opz (zv : Nat → Nat → Int) (i : Nat) : Nat → Int := fun j => zv i (j + 1)
/-- The graph behind so many operations. -/
noncomputable def runG (len : Nat) (S : Nat → ByteArray) (T : Nat) (zv : Nat → Nat → Int) : Nat → Gr
  | 0 => Gr.new
  | i + 1 => (runG len S T zv i).go len S T (zv i 0) (opz zv i)

theorem runG_n (len : Nat) (S : Nat → ByteArray) (T : Nat) (zv : Nat → Nat → Int) : ∀ i, (runG len S T zv i).n ≤ i + 1
  | 0 => Nat.le_refl _
  | i + 1 => by
    have h := runG_n len S T zv i
    have := (Gr.go_n (len := len) (S := S) (T := T) (runG len S T zv i) (zv i 0) (opz zv i)).1
    show ((runG len S T zv i).go len S T (zv i 0) (opz zv i)).n ≤ i + 1 + 1
    omega

theorem st_doz {T : Nat} {sp : Int} {len : Nat} {S : Nat → ByteArray} {w w1 : World} {m : Nat} {gf : Nat → Nat} {Gf : Nat → Gr} {l : List (Nat × Obj)} (h : St T sp len S w w1 m gf Gf l) {i g : Nat} (hi : i < m) (hg : gf i = g) (hn : (Gf i).n ≤ 1000000) (t : Int) (z : Nat → Int) {o : Value} (ho : opV z = o) :
    Calls Try.prog 14 #[.pointer (some ⟨g, 0, none⟩), .int .i64 t, o] w1 fun e w' =>
      e = .returned (.tuple #[.agg #[.int .i64 ((Gf i).aE len S T t z), .bool ((Gf i).aI len S T t z), .int .i64 ((Gf i).aV len S T t z)], .int .i64 (aF T t)]) ∧ St T sp len S w w' m gf (updG Gf i ((Gf i).go len S T t z)) l := by
  subst ho
  exact st_do h hi hg hn t z

/-- What Do answers. -/
noncomputable def ansV (len : Nat) (S : Nat → ByteArray) (T : Nat) (G : Gr) (t : Int) (z : Nat → Int) : Value := .agg #[.int .i64 (G.aE len S T t z), .bool (G.aI len S T t z), .int .i64 (G.aV len S T t z)]
noncomputable abbrev ansC (len : Nat) (S : Nat → ByteArray) (T : Nat) (G : Gr) (t : Int) (z : Nat → Int) : Array Value := #[.int .i64 (G.aE len S T t z), .bool (G.aI len S T t z), .int .i64 (G.aV len S T t z)]

def tri {α : Type} (a b c : α) : Nat → α
  | 0 => a
  | 1 => b
  | _ => c

section
variable {T : Nat} {sp : Int} {len : Nat} {S : Nat → ByteArray} {w w1 : World} {l : List (Nat × Obj)} {g ga gh : Nat} {G Ga Gh : Gr}

theorem St.congr {m : Nat} {gf gf' : Nat → Nat} {Gf Gf' : Nat → Gr} (h : St T sp len S w w1 m gf Gf l) (h1 : ∀ i, i < m → gf' i = gf i) (h2 : ∀ i, i < m → Gf' i = Gf i) : St T sp len S w w1 m gf' Gf' l := by
  obtain ⟨Lf, h⟩ := h
  exact ⟨Lf, fun i hi => by rw [h2 i hi]; exact h.g i hi, fun i hi => by rw [h1 i hi]; exact h.adr i hi, h.dis, h.sh, h.b, h.base, h.outs⟩

/-- One graph, two, three side by side. -/
def St1 (T : Nat) (sp : Int) (len : Nat) (S : Nat → ByteArray) (w w1 : World) (g : Nat) (G : Gr) (l : List (Nat × Obj)) : Prop := St T sp len S w w1 1 (tri g g g) (tri G G G) l
def St2 (T : Nat) (sp : Int) (len : Nat) (S : Nat → ByteArray) (w w1 : World) (g ga : Nat) (G Ga : Gr) (l : List (Nat × Obj)) : Prop := St T sp len S w w1 2 (tri g ga ga) (tri G Ga Ga) l
def St3 (T : Nat) (sp : Int) (len : Nat) (S : Nat → ByteArray) (w w1 : World) (g ga gh : Nat) (G Ga Gh : Gr) (l : List (Nat × Obj)) : Prop := St T sp len S w w1 3 (tri g ga gh) (tri G Ga Gh) l

theorem st1_new {A : Option Addr} {cap : Nat} (hb : Below w.heap.size w w1) (H : ShOk w1 A len S) (hok : okPB T sp len S = true) :
    Calls Try.prog 10 #[.agg #[.int .i64 T, .int .i64 sp, .slice A len cap]] w1 fun e w' => ∃ g, e = .returned (.tuple #[.pointer (some ⟨g, 0, none⟩), .int .i64 0]) ∧ St1 T sp len S w w' g Gr.new [] := by
  refine (st_new hb H hok).mono ?_
  rintro e w' ⟨g, he, hs⟩
  exact ⟨g, he, hs.congr (fun i hi => by obtain rfl : i = 0 := by omega
                                         rfl) (fun i hi => by obtain rfl : i = 0 := by omega
                                                              rfl)⟩

theorem st1_do (h : St1 T sp len S w w1 g G l) (hn : G.n ≤ 1000000) (t : Int) (z : Nat → Int) {o : Value} (ho : opV z = o) :
    Calls Try.prog 14 #[.pointer (some ⟨g, 0, none⟩), .int .i64 t, o] w1 fun e w' =>
      e = .returned (.tuple #[.agg (ansC len S T G t z), .int .i64 (aF T t)]) ∧ St1 T sp len S w w' g (G.go len S T t z) l := by
  refine (st_doz h (i := 0) (by omega) rfl hn t z ho).mono ?_
  rintro e w' ⟨he, hs⟩
  exact ⟨he, hs.congr (fun i hi => rfl) (fun i hi => by obtain rfl : i = 0 := by omega
                                                        rfl)⟩
theorem st2_do0 (h : St2 T sp len S w w1 g ga G Ga l) (hn : G.n ≤ 1000000) (t : Int) (z : Nat → Int) {o : Value} (ho : opV z = o) :
    Calls Try.prog 14 #[.pointer (some ⟨g, 0, none⟩), .int .i64 t, o] w1 fun e w' =>
      e = .returned (.tuple #[.agg (ansC len S T G t z), .int .i64 (aF T t)]) ∧ St2 T sp len S w w' g ga (G.go len S T t z) Ga l := by
  refine (st_doz h (i := 0) (by omega) rfl hn t z ho).mono ?_
  rintro e w' ⟨he, hs⟩
  exact ⟨he, hs.congr (fun i hi => rfl) (fun i hi => by obtain rfl | rfl : i = 0 ∨ i = 1 := by omega
                                                        all_goals rfl)⟩
theorem st2_do1 (h : St2 T sp len S w w1 g ga G Ga l) (hn : Ga.n ≤ 1000000) (t : Int) (z : Nat → Int) {o : Value} (ho : opV z = o) :
    Calls Try.prog 14 #[.pointer (some ⟨ga, 0, none⟩), .int .i64 t, o] w1 fun e w' =>
      e = .returned (.tuple #[.agg (ansC len S T Ga t z), .int .i64 (aF T t)]) ∧ St2 T sp len S w w' g ga G (Ga.go len S T t z) l := by
  refine (st_doz h (i := 1) (by omega) rfl hn t z ho).mono ?_
  rintro e w' ⟨he, hs⟩
  exact ⟨he, hs.congr (fun i hi => rfl) (fun i hi => by obtain rfl | rfl : i = 0 ∨ i = 1 := by omega
                                                        all_goals rfl)⟩
theorem st3_do0 (h : St3 T sp len S w w1 g ga gh G Ga Gh l) (hn : G.n ≤ 1000000) (t : Int) (z : Nat → Int) {o : Value} (ho : opV z = o) :
    Calls Try.prog 14 #[.pointer (some ⟨g, 0, none⟩), .int .i64 t, o] w1 fun e w' =>
      e = .returned (.tuple #[.agg (ansC len S T G t z), .int .i64 (aF T t)]) ∧ St3 T sp len S w w' g ga gh (G.go len S T t z) Ga Gh l := by
  refine (st_doz h (i := 0) (by omega) rfl hn t z ho).mono ?_
  rintro e w' ⟨he, hs⟩
  exact ⟨he, hs.congr (fun i hi => rfl) (fun i hi => by obtain rfl | rfl | rfl : i = 0 ∨ i = 1 ∨ i = 2 := by omega
                                                        all_goals rfl)⟩
theorem st3_do1 (h : St3 T sp len S w w1 g ga gh G Ga Gh l) (hn : Ga.n ≤ 1000000) (t : Int) (z : Nat → Int) {o : Value} (ho : opV z = o) :
    Calls Try.prog 14 #[.pointer (some ⟨ga, 0, none⟩), .int .i64 t, o] w1 fun e w' =>
      e = .returned (.tuple #[.agg (ansC len S T Ga t z), .int .i64 (aF T t)]) ∧ St3 T sp len S w w' g ga gh G (Ga.go len S T t z) Gh l := by
  refine (st_doz h (i := 1) (by omega) rfl hn t z ho).mono ?_
  rintro e w' ⟨he, hs⟩
  exact ⟨he, hs.congr (fun i hi => rfl) (fun i hi => by obtain rfl | rfl | rfl : i = 0 ∨ i = 1 ∨ i = 2 := by omega
                                                        all_goals rfl)⟩
theorem st3_do2 (h : St3 T sp len S w w1 g ga gh G Ga Gh l) (hn : Gh.n ≤ 1000000) (t : Int) (z : Nat → Int) {o : Value} (ho : opV z = o) :
    Calls Try.prog 14 #[.pointer (some ⟨gh, 0, none⟩), .int .i64 t, o] w1 fun e w' =>
      e = .returned (.tuple #[.agg (ansC len S T Gh t z), .int .i64 (aF T t)]) ∧ St3 T sp len S w w' g ga gh G Ga (Gh.go len S T t z) l := by
  refine (st_doz h (i := 2) (by omega) rfl hn t z ho).mono ?_
  rintro e w' ⟨he, hs⟩
  exact ⟨he, hs.congr (fun i hi => rfl) (fun i hi => by obtain rfl | rfl | rfl : i = 0 ∨ i = 1 ∨ i = 2 := by omega
                                                        all_goals rfl)⟩
theorem st1_copy (h : St1 T sp len S w w1 g G l) (hn : G.n ≤ 1000000) :
    Calls Try.prog 15 #[.pointer (some ⟨g, 0, none⟩)] w1 fun e w' => ∃ ga, e = .returned (.pointer (some ⟨ga, 0, none⟩)) ∧ St2 T sp len S w w' g ga G G l := by
  refine (st_copy h (i := 0) (by omega) rfl hn).mono ?_
  rintro e w' ⟨ga, he, hs⟩
  exact ⟨ga, he, hs.congr (fun i hi => by obtain rfl | rfl : i = 0 ∨ i = 1 := by omega
                                          all_goals rfl) (fun i hi => by obtain rfl | rfl : i = 0 ∨ i = 1 := by omega
                                                                         all_goals rfl)⟩
theorem st2_copy (h : St2 T sp len S w w1 g ga G Ga l) (hn : G.n ≤ 1000000) :
    Calls Try.prog 15 #[.pointer (some ⟨g, 0, none⟩)] w1 fun e w' => ∃ gh, e = .returned (.pointer (some ⟨gh, 0, none⟩)) ∧ St3 T sp len S w w' g ga gh G Ga G l := by
  refine (st_copy h (i := 0) (by omega) rfl hn).mono ?_
  rintro e w' ⟨gh, he, hs⟩
  exact ⟨gh, he, hs.congr (fun i hi => by obtain rfl | rfl | rfl : i = 0 ∨ i = 1 ∨ i = 2 := by omega
                                          all_goals rfl) (fun i hi => by obtain rfl | rfl | rfl : i = 0 ∨ i = 1 ∨ i = 2 := by omega
                                                                         all_goals rfl)⟩
end
end Go.Proofs.Ytbkaopeajjechaa
