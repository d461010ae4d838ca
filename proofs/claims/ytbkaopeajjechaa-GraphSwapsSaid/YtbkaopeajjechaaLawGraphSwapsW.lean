/- The walk of GraphSwaps: it returns true. -/
import Derived.Test.YtbkaopeajjechaaGuG
import Derived.Test.YtbkaopeajjechaaGhB
namespace Go.Proofs.Ytbkaopeajjechaa
set_option linter.unusedVariables false
set_option linter.unusedSimpArgs false
open Go.RowKit Go.Maps

set_option maxRecDepth 100000 in
set_option maxHeartbeats 8000000 in
theorem swaps_bad (t sp : Int) (A : Option Addr) (len cap : Nat) (B : Option Addr) (n bc : Nat) (hn : n ≤ 9223372036854775807) (hlen : len ≤ 9223372036854775807) (a0 a1 a2 a3 a4 a5 a6 a7 a8 c0 c1 c2 c3 c4 c5 c6 c7 c8 : Int) (S : Nat → ByteArray) (w : World) (H : ShOk w A len S) (hS : ∀ i, i < len → (S i).size ≤ maxLen) (hno : okPB t sp len S = false) :
    Calls Try.prog 9 #[.agg #[.int .i64 t, .int .i64 sp, .slice A len cap], .slice B n bc, .agg #[.int .i64 a0, .int .i64 a1, .int .i64 a2, .int .i64 a3, .int .i64 a4, .int .i64 a5, .int .i64 a6, .int .i64 a7, .int .i64 a8], .agg #[.int .i64 c0, .int .i64 c1, .int .i64 c2, .int .i64 c3, .int .i64 c4, .int .i64 c5, .int .i64 c6, .int .i64 c7, .int .i64 c8]] w fun e w' => e = .returned (.bool true) ∧ Below w.heap.size w w' := by
  have cf := hide (fun W (hW : Below w.heap.size w W) => few_any t sp A len cap S B n bc 40 hn (by omega) hlen W (H.keep hW) hS)
  have cn := hide (fun W (hW : Below w.heap.size w W) => new_no t A cap W (H.keep hW) hlen (fun i hi => by have := hS i hi; unfold maxLen at this; omega) hno)
  clear hS H hno hn hlen
  generalize fewB len S n 40 = b at *
  go_enter Try.func9, Try.ntmps9
  go_wp2_with fail
  refine (unhide cn _ (by repeat (first | exact Below.refl _ _ | assumption | refine Below.alloc ?_ (by first | (simp; done) | (simp; omega) | omega) _ | refine Below.setCell ?_ (by first | (simp; done) | (simp; omega) | omega) _ | apply Below.drew | refine Below.trans ?_ (Below.mono (by assumption) (by first | (simp; done) | (simp; omega) | omega))))).mono ?_
  rintro e w1 ⟨rfl, hb1⟩
  have hw1 : Below w.heap.size w w1 := by
    refine Below.trans ?_ (hb1.mono (by simp; omega))
    repeat (first | exact Below.refl _ _ | assumption | refine Below.alloc ?_ (by first | (simp; done) | (simp; omega) | omega) _ | refine Below.setCell ?_ (by first | (simp; done) | (simp; omega) | omega) _ | apply Below.drew | refine Below.trans ?_ (Below.mono (by assumption) (by first | (simp; done) | (simp; omega) | omega)))
  have p0 : w1.cell? ⟨w.heap.size, 0, none⟩ = some (.int .i64 t) := (hb1.cell (p := ⟨w.heap.size, 0, none⟩) (by simp; omega)).trans (by go_simp)
  have p1 : w1.cell? ⟨w.heap.size, 1, none⟩ = some (.int .i64 sp) := (hb1.cell (p := ⟨w.heap.size, 1, none⟩) (by simp; omega)).trans (by go_simp)
  have p2 : w1.cell? ⟨w.heap.size, 2, none⟩ = some (.slice A len cap) := (hb1.cell (p := ⟨w.heap.size, 2, none⟩) (by simp; omega)).trans (by go_simp)
  clear hb1
  go_wp2_with fail
  refine (unhide cf _ hw1).mono ?_
  rintro e w2 ⟨rfl, hb2⟩
  have HB := hide (hw1.trans (hb2.mono hw1.size))
  clear hb2 p0 p1 p2 hw1
  cases b
  all_goals
    go_wp2_with (first | (go_at_call 12; refine (num_any _ _).mono ?_; rintro e w' ⟨rfl, rfl⟩))
    refine (works09_any _).mono ?_
    rintro e w13 ⟨rfl, hb13⟩
    go_wp2
    go_ret
    exact ⟨rfl, (unhide HB).trans (hb13.mono (unhide HB).size)⟩

set_option maxRecDepth 100000 in
set_option maxHeartbeats 8000000 in
theorem swaps_many (T : Nat) (sp : Int) (A : Option Addr) (len cap : Nat) (B : Option Addr) (n bc : Nat) (hn : n ≤ 9223372036854775807) (hlen : len ≤ 9223372036854775807) (a0 a1 a2 a3 a4 a5 a6 a7 a8 c0 c1 c2 c3 c4 c5 c6 c7 c8 : Int) (S : Nat → ByteArray) (w : World) (H : ShOk w A len S) (hS : ∀ i, i < len → (S i).size ≤ maxLen) (hok : okPB (T : Int) sp len S = true) (hno : fewB len S n 40 = false) :
    Calls Try.prog 9 #[.agg #[.int .i64 (T : Int), .int .i64 sp, .slice A len cap], .slice B n bc, .agg #[.int .i64 a0, .int .i64 a1, .int .i64 a2, .int .i64 a3, .int .i64 a4, .int .i64 a5, .int .i64 a6, .int .i64 a7, .int .i64 a8], .agg #[.int .i64 c0, .int .i64 c1, .int .i64 c2, .int .i64 c3, .int .i64 c4, .int .i64 c5, .int .i64 c6, .int .i64 c7, .int .i64 c8]] w fun e w' => e = .returned (.bool true) ∧ Below w.heap.size w w' := by
  have cf := hide (fun W (hW : Below w.heap.size w W) => few_any T sp A len cap S B n bc 40 hn (by omega) hlen W (H.keep hW) hS)
  rw [hno] at cf
  have cn := hide (fun W (hW : Below w.heap.size w W) => st1_new (T := T) (sp := sp) (len := len) (S := S) (cap := cap) (Below.refl _ W) (H.keep hW) hok)
  clear hS H hno hn hlen hok
  go_enter Try.func9, Try.ntmps9
  go_wp2_with fail
  refine (unhide cn _ (by repeat (first | exact Below.refl _ _ | assumption | refine Below.alloc ?_ (by first | (simp; done) | (simp; omega) | omega) _ | refine Below.setCell ?_ (by first | (simp; done) | (simp; omega) | omega) _ | apply Below.drew | refine Below.trans ?_ (Below.mono (by assumption) (by first | (simp; done) | (simp; omega) | omega))))).mono ?_
  rintro e w1 ⟨g, rfl, h1⟩
  have hb1 := St.b h1
  clear h1
  have hw1 : Below w.heap.size w w1 := by
    refine Below.trans ?_ (hb1.mono (by simp; omega))
    repeat (first | exact Below.refl _ _ | assumption | refine Below.alloc ?_ (by first | (simp; done) | (simp; omega) | omega) _ | refine Below.setCell ?_ (by first | (simp; done) | (simp; omega) | omega) _ | apply Below.drew | refine Below.trans ?_ (Below.mono (by assumption) (by first | (simp; done) | (simp; omega) | omega)))
  have p0 : w1.cell? ⟨w.heap.size, 0, none⟩ = some (.int .i64 (T : Int)) := (hb1.cell (p := ⟨w.heap.size, 0, none⟩) (by simp; omega)).trans (by go_simp)
  have p1 : w1.cell? ⟨w.heap.size, 1, none⟩ = some (.int .i64 sp) := (hb1.cell (p := ⟨w.heap.size, 1, none⟩) (by simp; omega)).trans (by go_simp)
  have p2 : w1.cell? ⟨w.heap.size, 2, none⟩ = some (.slice A len cap) := (hb1.cell (p := ⟨w.heap.size, 2, none⟩) (by simp; omega)).trans (by go_simp)
  clear hb1
  go_wp2_with fail
  refine (unhide cf _ hw1).mono ?_
  rintro e w2 ⟨rfl, hb2⟩
  have HB := hide (hw1.trans (hb2.mono hw1.size))
  clear hb2 p0 p1 p2 hw1
  go_wp2_with fail
  refine (works09_any _).mono ?_
  rintro e w13 ⟨rfl, hb13⟩
  go_wp2
  go_ret
  exact ⟨rfl, (unhide HB).trans (hb13.mono (unhide HB).size)⟩

set_option maxRecDepth 100000 in
set_option maxHeartbeats 8000000 in
theorem swaps_ok (T : Nat) (sp : Int) (A : Option Addr) (len cap : Nat) (B : Option Addr) (n bc : Nat) (hn : n ≤ 9223372036854775807) (hlen : len ≤ 9223372036854775807) (a0 a1 a2 a3 a4 a5 a6 a7 a8 c0 c1 c2 c3 c4 c5 c6 c7 c8 : Int) (S : Nat → ByteArray) (zv : Nat → Nat → Int) (w : World) (H : ShOk w A len S) (hS : ∀ i, i < len → (S i).size ≤ maxLen) (HA : Hid (ActOk w B n zv)) (hf : fewB len S n 40 = true) (hok : okPB (T : Int) sp len S = true) :
    Calls Try.prog 9 #[.agg #[.int .i64 (T : Int), .int .i64 sp, .slice A len cap], .slice B n bc, .agg #[.int .i64 a0, .int .i64 a1, .int .i64 a2, .int .i64 a3, .int .i64 a4, .int .i64 a5, .int .i64 a6, .int .i64 a7, .int .i64 a8], .agg #[.int .i64 c0, .int .i64 c1, .int .i64 c2, .int .i64 c3, .int .i64 c4, .int .i64 c5, .int .i64 c6, .int .i64 c7, .int .i64 c8]] w fun e w' => e = .returned (.bool true) ∧ Below w.heap.size w w' := by
  have hn40 := (fewB_iff.1 hf).1
  have cf := hide (fun W (hW : Below w.heap.size w W) => few_any T sp A len cap S B n bc 40 hn (by omega) hlen W (H.keep hW) hS)
  rw [hf] at cf
  have HH := hide (fun W (hW : Below w.heap.size w W) => H.keep hW)
  have HOK := hide hok
  clear hf hok hS H hn hlen
  go_enter Try.func9, Try.ntmps9
  go_wp2_with fail
  refine calls_gen ?_
  intro w0 hw0
  have hw0' : [.cells #[.int .i64 (T : Int), .int .i64 sp, .slice A len cap] 24, .cells #[.int .i64 a0, .int .i64 a1, .int .i64 a2, .int .i64 a3, .int .i64 a4, .int .i64 a5, .int .i64 a6, .int .i64 a7, .int .i64 a8] 30, .cells #[.int .i64 c0, .int .i64 c1, .int .i64 c2, .int .i64 c3, .int .i64 c4, .int .i64 c5, .int .i64 c6, .int .i64 c7, .int .i64 c8] 30].foldl World.alloc w = w0 := hw0.symm
  have hB0 := allocs_below [.cells #[.int .i64 (T : Int), .int .i64 sp, .slice A len cap] 24, .cells #[.int .i64 a0, .int .i64 a1, .int .i64 a2, .int .i64 a3, .int .i64 a4, .int .i64 a5, .int .i64 a6, .int .i64 a7, .int .i64 a8] 30, .cells #[.int .i64 c0, .int .i64 c1, .int .i64 c2, .int .i64 c3, .int .i64 c4, .int .i64 c5, .int .i64 c6, .int .i64 c7, .int .i64 c8] 30] w
  have hz0 := allocs_size [.cells #[.int .i64 (T : Int), .int .i64 sp, .slice A len cap] 24, .cells #[.int .i64 a0, .int .i64 a1, .int .i64 a2, .int .i64 a3, .int .i64 a4, .int .i64 a5, .int .i64 a6, .int .i64 a7, .int .i64 a8] 30, .cells #[.int .i64 c0, .int .i64 c1, .int .i64 c2, .int .i64 c3, .int .i64 c4, .int .i64 c5, .int .i64 c6, .int .i64 c7, .int .i64 c8] 30] w
  have hat := allocs_at [.cells #[.int .i64 (T : Int), .int .i64 sp, .slice A len cap] 24, .cells #[.int .i64 a0, .int .i64 a1, .int .i64 a2, .int .i64 a3, .int .i64 a4, .int .i64 a5, .int .i64 a6, .int .i64 a7, .int .i64 a8] 30, .cells #[.int .i64 c0, .int .i64 c1, .int .i64 c2, .int .i64 c3, .int .i64 c4, .int .i64 c5, .int .i64 c6, .int .i64 c7, .int .i64 c8] 30] w
  rw [hw0'] at hB0 hz0 hat
  simp only [List.length_cons, List.length_nil] at hz0
  have b0 : w0.heap[w.heap.size]? = _ := hat 0 _ rfl
  have b1 : w0.heap[w.heap.size + 1]? = _ := hat 1 _ rfl
  have b2 : w0.heap[w.heap.size + 1 + 1]? = _ := hat 2 _ rfl
  have HX0 := hide (fun W (hW : Below w0.heap.size w0 W) => (hW.block _ (Array.getElem?_eq_some_iff.1 b0).1).trans b0)
  have HX1 := hide (fun W (hW : Below w0.heap.size w0 W) => (hW.block _ (Array.getElem?_eq_some_iff.1 b1).1).trans b1)
  have HX2 := hide (fun W (hW : Below w0.heap.size w0 W) => (hW.block _ (Array.getElem?_eq_some_iff.1 b2).1).trans b2)
  clear hw0 hw0' hat b0 b1 b2
  refine (st1_new (T := T) (sp := sp) (len := len) (S := S) (Below.refl _ _) (unhide HH _ hB0) (unhide HOK)).mono ?_
  rintro e w1 ⟨g, rfl, h1⟩
  have H1 := hide h1
  have hb1 := St.b h1
  have hq0 := unhide HX0 w1 hb1
  have p0 : w1.cell? ⟨w.heap.size, 0, none⟩ = some (.int .i64 (T : Int)) := by rw [Lib.cell_of_heap hq0]; rfl
  have p1 : w1.cell? ⟨w.heap.size, 1, none⟩ = some (.int .i64 sp) := by rw [Lib.cell_of_heap hq0]; rfl
  have p2 : w1.cell? ⟨w.heap.size, 2, none⟩ = some (.slice A len cap) := by rw [Lib.cell_of_heap hq0]; rfl
  clear h1 hq0
  go_wp2_with fail
  refine (unhide cf w1 (hB0.trans (hb1.mono (by omega)))).mono ?_
  rintro e w2 ⟨rfl, hb2⟩
  have H2 := hide (St.below (unhide H1) hb2)
  clear hb2 H1 hb1 p0 p1 p2
  have HZ := H2
  have hx := unhide HX1 (w2) (St.b (unhide HZ))
  have hy := unhide HX2 (w2) (St.b (unhide HZ))
  have x0 : (w2).cell? ⟨w.heap.size + 1, 0, none⟩ = some (.int .i64 a0) := by rw [Lib.cell_of_heap hx]; rfl
  have x1 : (w2).cell? ⟨w.heap.size + 1, 1, none⟩ = some (.int .i64 a1) := by rw [Lib.cell_of_heap hx]; rfl
  have x2 : (w2).cell? ⟨w.heap.size + 1, 2, none⟩ = some (.int .i64 a2) := by rw [Lib.cell_of_heap hx]; rfl
  have x3 : (w2).cell? ⟨w.heap.size + 1, 3, none⟩ = some (.int .i64 a3) := by rw [Lib.cell_of_heap hx]; rfl
  have x4 : (w2).cell? ⟨w.heap.size + 1, 4, none⟩ = some (.int .i64 a4) := by rw [Lib.cell_of_heap hx]; rfl
  have x5 : (w2).cell? ⟨w.heap.size + 1, 5, none⟩ = some (.int .i64 a5) := by rw [Lib.cell_of_heap hx]; rfl
  have x6 : (w2).cell? ⟨w.heap.size + 1, 6, none⟩ = some (.int .i64 a6) := by rw [Lib.cell_of_heap hx]; rfl
  have x7 : (w2).cell? ⟨w.heap.size + 1, 7, none⟩ = some (.int .i64 a7) := by rw [Lib.cell_of_heap hx]; rfl
  have x8 : (w2).cell? ⟨w.heap.size + 1, 8, none⟩ = some (.int .i64 a8) := by rw [Lib.cell_of_heap hx]; rfl
  have y0 : (w2).cell? ⟨w.heap.size + 1 + 1, 0, none⟩ = some (.int .i64 c0) := by rw [Lib.cell_of_heap hy]; rfl
  have y1 : (w2).cell? ⟨w.heap.size + 1 + 1, 1, none⟩ = some (.int .i64 c1) := by rw [Lib.cell_of_heap hy]; rfl
  have y2 : (w2).cell? ⟨w.heap.size + 1 + 1, 2, none⟩ = some (.int .i64 c2) := by rw [Lib.cell_of_heap hy]; rfl
  have y3 : (w2).cell? ⟨w.heap.size + 1 + 1, 3, none⟩ = some (.int .i64 c3) := by rw [Lib.cell_of_heap hy]; rfl
  have y4 : (w2).cell? ⟨w.heap.size + 1 + 1, 4, none⟩ = some (.int .i64 c4) := by rw [Lib.cell_of_heap hy]; rfl
  have y5 : (w2).cell? ⟨w.heap.size + 1 + 1, 5, none⟩ = some (.int .i64 c5) := by rw [Lib.cell_of_heap hy]; rfl
  have y6 : (w2).cell? ⟨w.heap.size + 1 + 1, 6, none⟩ = some (.int .i64 c6) := by rw [Lib.cell_of_heap hy]; rfl
  have y7 : (w2).cell? ⟨w.heap.size + 1 + 1, 7, none⟩ = some (.int .i64 c7) := by rw [Lib.cell_of_heap hy]; rfl
  have y8 : (w2).cell? ⟨w.heap.size + 1 + 1, 8, none⟩ = some (.int .i64 c8) := by rw [Lib.cell_of_heap hy]; rfl
  clear hx hy
  have HB := hide (hB0.trans ((St.b (unhide H2)).mono (by omega)))
  by_cases hth : a0 = c0
  · have eth : (a0 == c0) = true := by simpa using hth
    clear hth
    go_wp2_with (first | (go_at_call 12; refine (num_any _ _).mono ?_; rintro e w' ⟨rfl, rfl⟩))
    refine (works09_any _).mono ?_
    rintro e w13 ⟨rfl, hb13⟩
    go_wp2
    go_ret
    exact ⟨rfl, (unhide HB).trans (hb13.mono (unhide HB).size)⟩
  have eth : (a0 == c0) = false := by simpa using hth
  cases hs1 : slB (zl [a1, a2, a3, a4, a5, a6, a7, a8]) with
  | false =>
    have cs := hide (slots_any (zl [a1, a2, a3, a4, a5, a6, a7, a8]) w2)
    rw [hs1] at cs
    clear hs1 hth
    go_wp2_with (first | (go_at_call 12; refine (num_any _ _).mono ?_; rintro e w' ⟨rfl, rfl⟩))
    refine (unhide cs).mono ?_
    rintro e w3 ⟨rfl, hb3⟩
    have HB := hide ((unhide HB).trans (hb3.mono (unhide HB).size))
    clear hb3 cs
    clear x0 x1 x2 x3 x4 x5 x6 x7 x8 y0 y1 y2 y3 y4 y5 y6 y7 y8
    go_wp2_with fail
    refine (works09_any _).mono ?_
    rintro e w13 ⟨rfl, hb13⟩
    go_wp2
    go_ret
    exact ⟨rfl, (unhide HB).trans (hb13.mono (unhide HB).size)⟩
  | true =>
    have cs := hide (slots_any (zl [a1, a2, a3, a4, a5, a6, a7, a8]) w2)
    rw [hs1] at cs
    go_wp2_with (first | (go_at_call 12; refine (num_any _ _).mono ?_; rintro e w' ⟨rfl, rfl⟩))
    refine (unhide cs).mono ?_
    rintro e w3 ⟨rfl, hb3⟩
    have HB := hide ((unhide HB).trans (hb3.mono (unhide HB).size))
    have HZ3 := hide (St.below (unhide HZ) hb3)
    clear hb3 cs HZ
    have HZ := HZ3
    clear HZ3
    clear x0 x1 x2 x3 x4 x5 x6 x7 x8 y0 y1 y2 y3 y4 y5 y6 y7 y8
    have hx := unhide HX1 (w3) (St.b (unhide HZ))
    have hy := unhide HX2 (w3) (St.b (unhide HZ))
    have x0 : (w3).cell? ⟨w.heap.size + 1, 0, none⟩ = some (.int .i64 a0) := by rw [Lib.cell_of_heap hx]; rfl
    have x1 : (w3).cell? ⟨w.heap.size + 1, 1, none⟩ = some (.int .i64 a1) := by rw [Lib.cell_of_heap hx]; rfl
    have x2 : (w3).cell? ⟨w.heap.size + 1, 2, none⟩ = some (.int .i64 a2) := by rw [Lib.cell_of_heap hx]; rfl
    have x3 : (w3).cell? ⟨w.heap.size + 1, 3, none⟩ = some (.int .i64 a3) := by rw [Lib.cell_of_heap hx]; rfl
    have x4 : (w3).cell? ⟨w.heap.size + 1, 4, none⟩ = some (.int .i64 a4) := by rw [Lib.cell_of_heap hx]; rfl
    have x5 : (w3).cell? ⟨w.heap.size + 1, 5, none⟩ = some (.int .i64 a5) := by rw [Lib.cell_of_heap hx]; rfl
    have x6 : (w3).cell? ⟨w.heap.size + 1, 6, none⟩ = some (.int .i64 a6) := by rw [Lib.cell_of_heap hx]; rfl
    have x7 : (w3).cell? ⟨w.heap.size + 1, 7, none⟩ = some (.int .i64 a7) := by rw [Lib.cell_of_heap hx]; rfl
    have x8 : (w3).cell? ⟨w.heap.size + 1, 8, none⟩ = some (.int .i64 a8) := by rw [Lib.cell_of_heap hx]; rfl
    have y0 : (w3).cell? ⟨w.heap.size + 1 + 1, 0, none⟩ = some (.int .i64 c0) := by rw [Lib.cell_of_heap hy]; rfl
    have y1 : (w3).cell? ⟨w.heap.size + 1 + 1, 1, none⟩ = some (.int .i64 c1) := by rw [Lib.cell_of_heap hy]; rfl
    have y2 : (w3).cell? ⟨w.heap.size + 1 + 1, 2, none⟩ = some (.int .i64 c2) := by rw [Lib.cell_of_heap hy]; rfl
    have y3 : (w3).cell? ⟨w.heap.size + 1 + 1, 3, none⟩ = some (.int .i64 c3) := by rw [Lib.cell_of_heap hy]; rfl
    have y4 : (w3).cell? ⟨w.heap.size + 1 + 1, 4, none⟩ = some (.int .i64 c4) := by rw [Lib.cell_of_heap hy]; rfl
    have y5 : (w3).cell? ⟨w.heap.size + 1 + 1, 5, none⟩ = some (.int .i64 c5) := by rw [Lib.cell_of_heap hy]; rfl
    have y6 : (w3).cell? ⟨w.heap.size + 1 + 1, 6, none⟩ = some (.int .i64 c6) := by rw [Lib.cell_of_heap hy]; rfl
    have y7 : (w3).cell? ⟨w.heap.size + 1 + 1, 7, none⟩ = some (.int .i64 c7) := by rw [Lib.cell_of_heap hy]; rfl
    have y8 : (w3).cell? ⟨w.heap.size + 1 + 1, 8, none⟩ = some (.int .i64 c8) := by rw [Lib.cell_of_heap hy]; rfl
    clear hx hy
    have cs := hide (slots_any (zl [c1, c2, c3, c4, c5, c6, c7, c8]) w3)
    go_wp2_with fail
    refine (unhide cs).mono ?_
    rintro e w4 ⟨rfl, hb4⟩
    have HB := hide ((unhide HB).trans (hb4.mono (unhide HB).size))
    have HZ4 := hide (St.below (unhide HZ) hb4)
    clear hb4 cs HZ
    clear x0 x1 x2 x3 x4 x5 x6 x7 x8 y0 y1 y2 y3 y4 y5 y6 y7 y8
    cases hs2 : slB (zl [c1, c2, c3, c4, c5, c6, c7, c8]) with
    | false =>
      go_wp2_with fail
      refine (works09_any _).mono ?_
      rintro e w13 ⟨rfl, hb13⟩
      go_wp2
      go_ret
      exact ⟨rfl, (unhide HB).trans (hb13.mono (unhide HB).size)⟩
    | true =>
      have hk1 : a1 = 8 ∨ a1 = 9 ∨ a1 = 10 := by
        have := hs1
        unfold slB at this
        exact of_decide_eq_true this
      have hk2 : c1 = 8 ∨ c1 = 9 ∨ c1 = 10 := by
        have := hs2
        unfold slB at this
        exact of_decide_eq_true this
      clear hs1 hs2 eth HB
      go_wp2_with fail
      have H2 := HZ4
      clear HZ4
      go_loopw [11] (fun i wr => ∃ j : Nat, j ≤ n ∧ i = .int .i64 j ∧ Hid (St1 T sp len S w0 wr g (runG len S T zv j) [])) (fun i _ => n - (intOf i).toNat)
      case atStart => exact ⟨0, Nat.zero_le _, rfl, H2⟩
      case round =>
        obtain ⟨j, hj, rfl, HJ⟩ := hrel
        by_cases hlt : j < n
        · have hb := St.b (unhide HJ)
          obtain ⟨bs, o, rfl, hbl, hcs⟩ := unhide HA (by omega)
          have hc : ∀ q, q < 9 → wr.cell? ⟨bs, o + j * 9 + q, none⟩ = some (.int .i64 (zv j q)) := fun q hq => ((hB0.trans (hb.mono (by omega))).cell (p := ⟨bs, _, none⟩) hbl).trans (hcs j hlt q hq)
          have hbw : bs < wr.heap.size := by have := hb.size; omega
          have u0 := Later.cell (w := wr) hbw (hc 0 (by omega))
          have u1 := Later.cell (w := wr) hbw (hc 1 (by omega))
          have u2 := Later.cell (w := wr) hbw (hc 2 (by omega))
          have u3 := Later.cell (w := wr) hbw (hc 3 (by omega))
          have u4 := Later.cell (w := wr) hbw (hc 4 (by omega))
          have u5 := Later.cell (w := wr) hbw (hc 5 (by omega))
          have u6 := Later.cell (w := wr) hbw (hc 6 (by omega))
          have u7 := Later.cell (w := wr) hbw (hc 7 (by omega))
          have u8 := Later.cell (w := wr) hbw (hc 8 (by omega))
          rw [Nat.add_zero] at u0
          clear hc hcs
          have d0 : (0 : Int) ≤ (j : Int) := by omega
          have d1 : (j : Int) < (n : Int) := by omega
          go_wp2_with fail
          refine wp_region_head_later 11 wr (by kernel_rfl) (by kernel_rfl) (by repeat (first | exact Below.refl _ _ | assumption | refine Below.alloc ?_ (by first | (simp; done) | (simp; omega) | omega) _ | refine Below.setCell ?_ (by first | (simp; done) | (simp; omega) | omega) _ | apply Below.drew | refine Below.trans ?_ (Below.mono (by assumption) (by first | (simp; done) | (simp; omega) | omega)))) ?_; simp only [List.take_succ_cons, List.take_zero]; (repeat (first | go_big_quiet_skip | (go_big_quiet_want; (first | ((fail); go_big_quiet_on; simp only [Act.put, List.setIfInBounds_toArray, List.set_cons_zero, List.set_cons_succ]) | (go_big_quiet_op; (first | go_big_quiet_on | go_big_quiet_call ((fail)))))))); refine wpQuiet_nil ?_; intro U hU; simp only [List.drop_succ_cons, List.drop_zero]
          clear u0 u1 u2 u3 u4 u5 u6 u7 u8
          go_wp2_with fail
          refine (st1_do (St.below (unhide HJ) hU) (by have := runG_n len S T zv j; omega) (zv j 0) (opz zv j) rfl).mono ?_
          rintro e w' ⟨rfl, hs⟩
          have HS : Hid (St1 T sp len S w0 w' g (runG len S T zv (j + 1)) []) := hide hs
          clear hs
          go_wp2
          go_roundw
          case measure => simp [intOf]; omega
          case rel => exact ⟨j + 1, by omega, by go_num, HS⟩
        · obtain rfl : j = n := by omega
          have hGn := runG_n len S T zv j
          generalize hGe : runG len S T zv j = G at *
          clear hGe
          go_wp2_with fail
          refine (st1_copy (unhide HJ) (by omega)).mono ?_
          rintro e w5 ⟨ga, rfl, h5⟩
          have H5 := hide h5
          clear h5 HJ
          go_wp2_with fail
          refine (st2_copy (unhide H5) (by omega)).mono ?_
          rintro e w6 ⟨gb, rfl, h6⟩
          have HZ := hide h6
          clear h6 H5
          obtain ⟨⟨q1, q2, q3⟩, q4⟩ := swaps_plain (T := T) (len := len) (S := S) (G := G) a0 c0 (zl [a1, a2, a3, a4, a5, a6, a7, a8]) (zl [c1, c2, c3, c4, c5, c6, c7, c8]) hth hk1 hk2
          obtain ⟨⟨r1, r2, r3⟩, -⟩ := swaps_plain (T := T) (len := len) (S := S) (G := G) c0 a0 (zl [c1, c2, c3, c4, c5, c6, c7, c8]) (zl [a1, a2, a3, a4, a5, a6, a7, a8]) (Ne.symm hth) hk2 hk1
          have hn1 := (Gr.go_n (len := len) (S := S) (T := T) G a0 (zl [a1, a2, a3, a4, a5, a6, a7, a8])).1
          have hn2 := (Gr.go_n (len := len) (S := S) (T := T) G c0 (zl [c1, c2, c3, c4, c5, c6, c7, c8])).1
          have hn3 := (Gr.go_n (len := len) (S := S) (T := T) (G.go len S T a0 (zl [a1, a2, a3, a4, a5, a6, a7, a8])) c0 (zl [c1, c2, c3, c4, c5, c6, c7, c8])).1
          have RR := hide (show _ ∧ _ ∧ _ ∧ _ ∧ _ ∧ _ ∧ _ from ⟨q1, q2, q3, q4, r1, r2, r3⟩)
          clear q1 q2 q3 q4 r1 r2 r3 hk1 hk2 hth
          have hx := unhide HX1 (w6) (St.b (unhide HZ))
          have hy := unhide HX2 (w6) (St.b (unhide HZ))
          have x0 : (w6).cell? ⟨w.heap.size + 1, 0, none⟩ = some (.int .i64 a0) := by rw [Lib.cell_of_heap hx]; rfl
          have x1 : (w6).cell? ⟨w.heap.size + 1, 1, none⟩ = some (.int .i64 a1) := by rw [Lib.cell_of_heap hx]; rfl
          have x2 : (w6).cell? ⟨w.heap.size + 1, 2, none⟩ = some (.int .i64 a2) := by rw [Lib.cell_of_heap hx]; rfl
          have x3 : (w6).cell? ⟨w.heap.size + 1, 3, none⟩ = some (.int .i64 a3) := by rw [Lib.cell_of_heap hx]; rfl
          have x4 : (w6).cell? ⟨w.heap.size + 1, 4, none⟩ = some (.int .i64 a4) := by rw [Lib.cell_of_heap hx]; rfl
          have x5 : (w6).cell? ⟨w.heap.size + 1, 5, none⟩ = some (.int .i64 a5) := by rw [Lib.cell_of_heap hx]; rfl
          have x6 : (w6).cell? ⟨w.heap.size + 1, 6, none⟩ = some (.int .i64 a6) := by rw [Lib.cell_of_heap hx]; rfl
          have x7 : (w6).cell? ⟨w.heap.size + 1, 7, none⟩ = some (.int .i64 a7) := by rw [Lib.cell_of_heap hx]; rfl
          have x8 : (w6).cell? ⟨w.heap.size + 1, 8, none⟩ = some (.int .i64 a8) := by rw [Lib.cell_of_heap hx]; rfl
          have y0 : (w6).cell? ⟨w.heap.size + 1 + 1, 0, none⟩ = some (.int .i64 c0) := by rw [Lib.cell_of_heap hy]; rfl
          have y1 : (w6).cell? ⟨w.heap.size + 1 + 1, 1, none⟩ = some (.int .i64 c1) := by rw [Lib.cell_of_heap hy]; rfl
          have y2 : (w6).cell? ⟨w.heap.size + 1 + 1, 2, none⟩ = some (.int .i64 c2) := by rw [Lib.cell_of_heap hy]; rfl
          have y3 : (w6).cell? ⟨w.heap.size + 1 + 1, 3, none⟩ = some (.int .i64 c3) := by rw [Lib.cell_of_heap hy]; rfl
          have y4 : (w6).cell? ⟨w.heap.size + 1 + 1, 4, none⟩ = some (.int .i64 c4) := by rw [Lib.cell_of_heap hy]; rfl
          have y5 : (w6).cell? ⟨w.heap.size + 1 + 1, 5, none⟩ = some (.int .i64 c5) := by rw [Lib.cell_of_heap hy]; rfl
          have y6 : (w6).cell? ⟨w.heap.size + 1 + 1, 6, none⟩ = some (.int .i64 c6) := by rw [Lib.cell_of_heap hy]; rfl
          have y7 : (w6).cell? ⟨w.heap.size + 1 + 1, 7, none⟩ = some (.int .i64 c7) := by rw [Lib.cell_of_heap hy]; rfl
          have y8 : (w6).cell? ⟨w.heap.size + 1 + 1, 8, none⟩ = some (.int .i64 c8) := by rw [Lib.cell_of_heap hy]; rfl
          clear hx hy
          go_wp2_with fail
          refine (st3_do1 (unhide HZ) (by omega) a0 (zl [a1, a2, a3, a4, a5, a6, a7, a8]) rfl).mono ?_
          rintro e w7 ⟨rfl, h7⟩
          clear x0 x1 x2 x3 x4 x5 x6 x7 x8 y0 y1 y2 y3 y4 y5 y6 y7 y8
          clear HZ
          have HZ := hide (St.box h7 (ansC len S T G a0 (zl [a1, a2, a3, a4, a5, a6, a7, a8])) 39)
          clear h7
          simp only [ansC] at HZ ⊢
          have hx := unhide HX1 (w7.alloc (.cells #[.int .i64 (G.aE len S T a0 (zl [a1, a2, a3, a4, a5, a6, a7, a8])), .bool (G.aI len S T a0 (zl [a1, a2, a3, a4, a5, a6, a7, a8])), .int .i64 (G.aV len S T a0 (zl [a1, a2, a3, a4, a5, a6, a7, a8]))] 39)) (St.b (unhide HZ))
          have hy := unhide HX2 (w7.alloc (.cells #[.int .i64 (G.aE len S T a0 (zl [a1, a2, a3, a4, a5, a6, a7, a8])), .bool (G.aI len S T a0 (zl [a1, a2, a3, a4, a5, a6, a7, a8])), .int .i64 (G.aV len S T a0 (zl [a1, a2, a3, a4, a5, a6, a7, a8]))] 39)) (St.b (unhide HZ))
          have x0 : (w7.alloc (.cells #[.int .i64 (G.aE len S T a0 (zl [a1, a2, a3, a4, a5, a6, a7, a8])), .bool (G.aI len S T a0 (zl [a1, a2, a3, a4, a5, a6, a7, a8])), .int .i64 (G.aV len S T a0 (zl [a1, a2, a3, a4, a5, a6, a7, a8]))] 39)).cell? ⟨w.heap.size + 1, 0, none⟩ = some (.int .i64 a0) := by rw [Lib.cell_of_heap hx]; rfl
          have x1 : (w7.alloc (.cells #[.int .i64 (G.aE len S T a0 (zl [a1, a2, a3, a4, a5, a6, a7, a8])), .bool (G.aI len S T a0 (zl [a1, a2, a3, a4, a5, a6, a7, a8])), .int .i64 (G.aV len S T a0 (zl [a1, a2, a3, a4, a5, a6, a7, a8]))] 39)).cell? ⟨w.heap.size + 1, 1, none⟩ = some (.int .i64 a1) := by rw [Lib.cell_of_heap hx]; rfl
          have x2 : (w7.alloc (.cells #[.int .i64 (G.aE len S T a0 (zl [a1, a2, a3, a4, a5, a6, a7, a8])), .bool (G.aI len S T a0 (zl [a1, a2, a3, a4, a5, a6, a7, a8])), .int .i64 (G.aV len S T a0 (zl [a1, a2, a3, a4, a5, a6, a7, a8]))] 39)).cell? ⟨w.heap.size + 1, 2, none⟩ = some (.int .i64 a2) := by rw [Lib.cell_of_heap hx]; rfl
          have x3 : (w7.alloc (.cells #[.int .i64 (G.aE len S T a0 (zl [a1, a2, a3, a4, a5, a6, a7, a8])), .bool (G.aI len S T a0 (zl [a1, a2, a3, a4, a5, a6, a7, a8])), .int .i64 (G.aV len S T a0 (zl [a1, a2, a3, a4, a5, a6, a7, a8]))] 39)).cell? ⟨w.heap.size + 1, 3, none⟩ = some (.int .i64 a3) := by rw [Lib.cell_of_heap hx]; rfl
          have x4 : (w7.alloc (.cells #[.int .i64 (G.aE len S T a0 (zl [a1, a2, a3, a4, a5, a6, a7, a8])), .bool (G.aI len S T a0 (zl [a1, a2, a3, a4, a5, a6, a7, a8])), .int .i64 (G.aV len S T a0 (zl [a1, a2, a3, a4, a5, a6, a7, a8]))] 39)).cell? ⟨w.heap.size + 1, 4, none⟩ = some (.int .i64 a4) := by rw [Lib.cell_of_heap hx]; rfl
          have x5 : (w7.alloc (.cells #[.int .i64 (G.aE len S T a0 (zl [a1, a2, a3, a4, a5, a6, a7, a8])), .bool (G.aI len S T a0 (zl [a1, a2, a3, a4, a5, a6, a7, a8])), .int .i64 (G.aV len S T a0 (zl [a1, a2, a3, a4, a5, a6, a7, a8]))] 39)).cell? ⟨w.heap.size + 1, 5, none⟩ = some (.int .i64 a5) := by rw [Lib.cell_of_heap hx]; rfl
          have x6 : (w7.alloc (.cells #[.int .i64 (G.aE len S T a0 (zl [a1, a2, a3, a4, a5, a6, a7, a8])), .bool (G.aI len S T a0 (zl [a1, a2, a3, a4, a5, a6, a7, a8])), .int .i64 (G.aV len S T a0 (zl [a1, a2, a3, a4, a5, a6, a7, a8]))] 39)).cell? ⟨w.heap.size + 1, 6, none⟩ = some (.int .i64 a6) := by rw [Lib.cell_of_heap hx]; rfl
          have x7 : (w7.alloc (.cells #[.int .i64 (G.aE len S T a0 (zl [a1, a2, a3, a4, a5, a6, a7, a8])), .bool (G.aI len S T a0 (zl [a1, a2, a3, a4, a5, a6, a7, a8])), .int .i64 (G.aV len S T a0 (zl [a1, a2, a3, a4, a5, a6, a7, a8]))] 39)).cell? ⟨w.heap.size + 1, 7, none⟩ = some (.int .i64 a7) := by rw [Lib.cell_of_heap hx]; rfl
          have x8 : (w7.alloc (.cells #[.int .i64 (G.aE len S T a0 (zl [a1, a2, a3, a4, a5, a6, a7, a8])), .bool (G.aI len S T a0 (zl [a1, a2, a3, a4, a5, a6, a7, a8])), .int .i64 (G.aV len S T a0 (zl [a1, a2, a3, a4, a5, a6, a7, a8]))] 39)).cell? ⟨w.heap.size + 1, 8, none⟩ = some (.int .i64 a8) := by rw [Lib.cell_of_heap hx]; rfl
          have y0 : (w7.alloc (.cells #[.int .i64 (G.aE len S T a0 (zl [a1, a2, a3, a4, a5, a6, a7, a8])), .bool (G.aI len S T a0 (zl [a1, a2, a3, a4, a5, a6, a7, a8])), .int .i64 (G.aV len S T a0 (zl [a1, a2, a3, a4, a5, a6, a7, a8]))] 39)).cell? ⟨w.heap.size + 1 + 1, 0, none⟩ = some (.int .i64 c0) := by rw [Lib.cell_of_heap hy]; rfl
          have y1 : (w7.alloc (.cells #[.int .i64 (G.aE len S T a0 (zl [a1, a2, a3, a4, a5, a6, a7, a8])), .bool (G.aI len S T a0 (zl [a1, a2, a3, a4, a5, a6, a7, a8])), .int .i64 (G.aV len S T a0 (zl [a1, a2, a3, a4, a5, a6, a7, a8]))] 39)).cell? ⟨w.heap.size + 1 + 1, 1, none⟩ = some (.int .i64 c1) := by rw [Lib.cell_of_heap hy]; rfl
          have y2 : (w7.alloc (.cells #[.int .i64 (G.aE len S T a0 (zl [a1, a2, a3, a4, a5, a6, a7, a8])), .bool (G.aI len S T a0 (zl [a1, a2, a3, a4, a5, a6, a7, a8])), .int .i64 (G.aV len S T a0 (zl [a1, a2, a3, a4, a5, a6, a7, a8]))] 39)).cell? ⟨w.heap.size + 1 + 1, 2, none⟩ = some (.int .i64 c2) := by rw [Lib.cell_of_heap hy]; rfl
          have y3 : (w7.alloc (.cells #[.int .i64 (G.aE len S T a0 (zl [a1, a2, a3, a4, a5, a6, a7, a8])), .bool (G.aI len S T a0 (zl [a1, a2, a3, a4, a5, a6, a7, a8])), .int .i64 (G.aV len S T a0 (zl [a1, a2, a3, a4, a5, a6, a7, a8]))] 39)).cell? ⟨w.heap.size + 1 + 1, 3, none⟩ = some (.int .i64 c3) := by rw [Lib.cell_of_heap hy]; rfl
          have y4 : (w7.alloc (.cells #[.int .i64 (G.aE len S T a0 (zl [a1, a2, a3, a4, a5, a6, a7, a8])), .bool (G.aI len S T a0 (zl [a1, a2, a3, a4, a5, a6, a7, a8])), .int .i64 (G.aV len S T a0 (zl [a1, a2, a3, a4, a5, a6, a7, a8]))] 39)).cell? ⟨w.heap.size + 1 + 1, 4, none⟩ = some (.int .i64 c4) := by rw [Lib.cell_of_heap hy]; rfl
          have y5 : (w7.alloc (.cells #[.int .i64 (G.aE len S T a0 (zl [a1, a2, a3, a4, a5, a6, a7, a8])), .bool (G.aI len S T a0 (zl [a1, a2, a3, a4, a5, a6, a7, a8])), .int .i64 (G.aV len S T a0 (zl [a1, a2, a3, a4, a5, a6, a7, a8]))] 39)).cell? ⟨w.heap.size + 1 + 1, 5, none⟩ = some (.int .i64 c5) := by rw [Lib.cell_of_heap hy]; rfl
          have y6 : (w7.alloc (.cells #[.int .i64 (G.aE len S T a0 (zl [a1, a2, a3, a4, a5, a6, a7, a8])), .bool (G.aI len S T a0 (zl [a1, a2, a3, a4, a5, a6, a7, a8])), .int .i64 (G.aV len S T a0 (zl [a1, a2, a3, a4, a5, a6, a7, a8]))] 39)).cell? ⟨w.heap.size + 1 + 1, 6, none⟩ = some (.int .i64 c6) := by rw [Lib.cell_of_heap hy]; rfl
          have y7 : (w7.alloc (.cells #[.int .i64 (G.aE len S T a0 (zl [a1, a2, a3, a4, a5, a6, a7, a8])), .bool (G.aI len S T a0 (zl [a1, a2, a3, a4, a5, a6, a7, a8])), .int .i64 (G.aV len S T a0 (zl [a1, a2, a3, a4, a5, a6, a7, a8]))] 39)).cell? ⟨w.heap.size + 1 + 1, 7, none⟩ = some (.int .i64 c7) := by rw [Lib.cell_of_heap hy]; rfl
          have y8 : (w7.alloc (.cells #[.int .i64 (G.aE len S T a0 (zl [a1, a2, a3, a4, a5, a6, a7, a8])), .bool (G.aI len S T a0 (zl [a1, a2, a3, a4, a5, a6, a7, a8])), .int .i64 (G.aV len S T a0 (zl [a1, a2, a3, a4, a5, a6, a7, a8]))] 39)).cell? ⟨w.heap.size + 1 + 1, 8, none⟩ = some (.int .i64 c8) := by rw [Lib.cell_of_heap hy]; rfl
          clear hx hy
          go_wp2_with fail
          refine (st3_do1 (unhide HZ) (by omega) c0 (zl [c1, c2, c3, c4, c5, c6, c7, c8]) rfl).mono ?_
          rintro e w8 ⟨rfl, h8⟩
          clear x0 x1 x2 x3 x4 x5 x6 x7 x8 y0 y1 y2 y3 y4 y5 y6 y7 y8
          clear HZ
          simp only [ansC]
          rw [(unhide RR).2.2.2.2.1, (unhide RR).2.2.2.2.2.1, (unhide RR).2.2.2.2.2.2]
          have HZ := hide (St.box h8 (ansC len S T G c0 (zl [c1, c2, c3, c4, c5, c6, c7, c8])) 39)
          clear h8
          simp only [ansC] at HZ
          have hx := unhide HX1 (w8.alloc (.cells #[.int .i64 (G.aE len S T c0 (zl [c1, c2, c3, c4, c5, c6, c7, c8])), .bool (G.aI len S T c0 (zl [c1, c2, c3, c4, c5, c6, c7, c8])), .int .i64 (G.aV len S T c0 (zl [c1, c2, c3, c4, c5, c6, c7, c8]))] 39)) (St.b (unhide HZ))
          have hy := unhide HX2 (w8.alloc (.cells #[.int .i64 (G.aE len S T c0 (zl [c1, c2, c3, c4, c5, c6, c7, c8])), .bool (G.aI len S T c0 (zl [c1, c2, c3, c4, c5, c6, c7, c8])), .int .i64 (G.aV len S T c0 (zl [c1, c2, c3, c4, c5, c6, c7, c8]))] 39)) (St.b (unhide HZ))
          have x0 : (w8.alloc (.cells #[.int .i64 (G.aE len S T c0 (zl [c1, c2, c3, c4, c5, c6, c7, c8])), .bool (G.aI len S T c0 (zl [c1, c2, c3, c4, c5, c6, c7, c8])), .int .i64 (G.aV len S T c0 (zl [c1, c2, c3, c4, c5, c6, c7, c8]))] 39)).cell? ⟨w.heap.size + 1, 0, none⟩ = some (.int .i64 a0) := by rw [Lib.cell_of_heap hx]; rfl
          have x1 : (w8.alloc (.cells #[.int .i64 (G.aE len S T c0 (zl [c1, c2, c3, c4, c5, c6, c7, c8])), .bool (G.aI len S T c0 (zl [c1, c2, c3, c4, c5, c6, c7, c8])), .int .i64 (G.aV len S T c0 (zl [c1, c2, c3, c4, c5, c6, c7, c8]))] 39)).cell? ⟨w.heap.size + 1, 1, none⟩ = some (.int .i64 a1) := by rw [Lib.cell_of_heap hx]; rfl
          have x2 : (w8.alloc (.cells #[.int .i64 (G.aE len S T c0 (zl [c1, c2, c3, c4, c5, c6, c7, c8])), .bool (G.aI len S T c0 (zl [c1, c2, c3, c4, c5, c6, c7, c8])), .int .i64 (G.aV len S T c0 (zl [c1, c2, c3, c4, c5, c6, c7, c8]))] 39)).cell? ⟨w.heap.size + 1, 2, none⟩ = some (.int .i64 a2) := by rw [Lib.cell_of_heap hx]; rfl
          have x3 : (w8.alloc (.cells #[.int .i64 (G.aE len S T c0 (zl [c1, c2, c3, c4, c5, c6, c7, c8])), .bool (G.aI len S T c0 (zl [c1, c2, c3, c4, c5, c6, c7, c8])), .int .i64 (G.aV len S T c0 (zl [c1, c2, c3, c4, c5, c6, c7, c8]))] 39)).cell? ⟨w.heap.size + 1, 3, none⟩ = some (.int .i64 a3) := by rw [Lib.cell_of_heap hx]; rfl
          have x4 : (w8.alloc (.cells #[.int .i64 (G.aE len S T c0 (zl [c1, c2, c3, c4, c5, c6, c7, c8])), .bool (G.aI len S T c0 (zl [c1, c2, c3, c4, c5, c6, c7, c8])), .int .i64 (G.aV len S T c0 (zl [c1, c2, c3, c4, c5, c6, c7, c8]))] 39)).cell? ⟨w.heap.size + 1, 4, none⟩ = some (.int .i64 a4) := by rw [Lib.cell_of_heap hx]; rfl
          have x5 : (w8.alloc (.cells #[.int .i64 (G.aE len S T c0 (zl [c1, c2, c3, c4, c5, c6, c7, c8])), .bool (G.aI len S T c0 (zl [c1, c2, c3, c4, c5, c6, c7, c8])), .int .i64 (G.aV len S T c0 (zl [c1, c2, c3, c4, c5, c6, c7, c8]))] 39)).cell? ⟨w.heap.size + 1, 5, none⟩ = some (.int .i64 a5) := by rw [Lib.cell_of_heap hx]; rfl
          have x6 : (w8.alloc (.cells #[.int .i64 (G.aE len S T c0 (zl [c1, c2, c3, c4, c5, c6, c7, c8])), .bool (G.aI len S T c0 (zl [c1, c2, c3, c4, c5, c6, c7, c8])), .int .i64 (G.aV len S T c0 (zl [c1, c2, c3, c4, c5, c6, c7, c8]))] 39)).cell? ⟨w.heap.size + 1, 6, none⟩ = some (.int .i64 a6) := by rw [Lib.cell_of_heap hx]; rfl
          have x7 : (w8.alloc (.cells #[.int .i64 (G.aE len S T c0 (zl [c1, c2, c3, c4, c5, c6, c7, c8])), .bool (G.aI len S T c0 (zl [c1, c2, c3, c4, c5, c6, c7, c8])), .int .i64 (G.aV len S T c0 (zl [c1, c2, c3, c4, c5, c6, c7, c8]))] 39)).cell? ⟨w.heap.size + 1, 7, none⟩ = some (.int .i64 a7) := by rw [Lib.cell_of_heap hx]; rfl
          have x8 : (w8.alloc (.cells #[.int .i64 (G.aE len S T c0 (zl [c1, c2, c3, c4, c5, c6, c7, c8])), .bool (G.aI len S T c0 (zl [c1, c2, c3, c4, c5, c6, c7, c8])), .int .i64 (G.aV len S T c0 (zl [c1, c2, c3, c4, c5, c6, c7, c8]))] 39)).cell? ⟨w.heap.size + 1, 8, none⟩ = some (.int .i64 a8) := by rw [Lib.cell_of_heap hx]; rfl
          have y0 : (w8.alloc (.cells #[.int .i64 (G.aE len S T c0 (zl [c1, c2, c3, c4, c5, c6, c7, c8])), .bool (G.aI len S T c0 (zl [c1, c2, c3, c4, c5, c6, c7, c8])), .int .i64 (G.aV len S T c0 (zl [c1, c2, c3, c4, c5, c6, c7, c8]))] 39)).cell? ⟨w.heap.size + 1 + 1, 0, none⟩ = some (.int .i64 c0) := by rw [Lib.cell_of_heap hy]; rfl
          have y1 : (w8.alloc (.cells #[.int .i64 (G.aE len S T c0 (zl [c1, c2, c3, c4, c5, c6, c7, c8])), .bool (G.aI len S T c0 (zl [c1, c2, c3, c4, c5, c6, c7, c8])), .int .i64 (G.aV len S T c0 (zl [c1, c2, c3, c4, c5, c6, c7, c8]))] 39)).cell? ⟨w.heap.size + 1 + 1, 1, none⟩ = some (.int .i64 c1) := by rw [Lib.cell_of_heap hy]; rfl
          have y2 : (w8.alloc (.cells #[.int .i64 (G.aE len S T c0 (zl [c1, c2, c3, c4, c5, c6, c7, c8])), .bool (G.aI len S T c0 (zl [c1, c2, c3, c4, c5, c6, c7, c8])), .int .i64 (G.aV len S T c0 (zl [c1, c2, c3, c4, c5, c6, c7, c8]))] 39)).cell? ⟨w.heap.size + 1 + 1, 2, none⟩ = some (.int .i64 c2) := by rw [Lib.cell_of_heap hy]; rfl
          have y3 : (w8.alloc (.cells #[.int .i64 (G.aE len S T c0 (zl [c1, c2, c3, c4, c5, c6, c7, c8])), .bool (G.aI len S T c0 (zl [c1, c2, c3, c4, c5, c6, c7, c8])), .int .i64 (G.aV len S T c0 (zl [c1, c2, c3, c4, c5, c6, c7, c8]))] 39)).cell? ⟨w.heap.size + 1 + 1, 3, none⟩ = some (.int .i64 c3) := by rw [Lib.cell_of_heap hy]; rfl
          have y4 : (w8.alloc (.cells #[.int .i64 (G.aE len S T c0 (zl [c1, c2, c3, c4, c5, c6, c7, c8])), .bool (G.aI len S T c0 (zl [c1, c2, c3, c4, c5, c6, c7, c8])), .int .i64 (G.aV len S T c0 (zl [c1, c2, c3, c4, c5, c6, c7, c8]))] 39)).cell? ⟨w.heap.size + 1 + 1, 4, none⟩ = some (.int .i64 c4) := by rw [Lib.cell_of_heap hy]; rfl
          have y5 : (w8.alloc (.cells #[.int .i64 (G.aE len S T c0 (zl [c1, c2, c3, c4, c5, c6, c7, c8])), .bool (G.aI len S T c0 (zl [c1, c2, c3, c4, c5, c6, c7, c8])), .int .i64 (G.aV len S T c0 (zl [c1, c2, c3, c4, c5, c6, c7, c8]))] 39)).cell? ⟨w.heap.size + 1 + 1, 5, none⟩ = some (.int .i64 c5) := by rw [Lib.cell_of_heap hy]; rfl
          have y6 : (w8.alloc (.cells #[.int .i64 (G.aE len S T c0 (zl [c1, c2, c3, c4, c5, c6, c7, c8])), .bool (G.aI len S T c0 (zl [c1, c2, c3, c4, c5, c6, c7, c8])), .int .i64 (G.aV len S T c0 (zl [c1, c2, c3, c4, c5, c6, c7, c8]))] 39)).cell? ⟨w.heap.size + 1 + 1, 6, none⟩ = some (.int .i64 c6) := by rw [Lib.cell_of_heap hy]; rfl
          have y7 : (w8.alloc (.cells #[.int .i64 (G.aE len S T c0 (zl [c1, c2, c3, c4, c5, c6, c7, c8])), .bool (G.aI len S T c0 (zl [c1, c2, c3, c4, c5, c6, c7, c8])), .int .i64 (G.aV len S T c0 (zl [c1, c2, c3, c4, c5, c6, c7, c8]))] 39)).cell? ⟨w.heap.size + 1 + 1, 7, none⟩ = some (.int .i64 c7) := by rw [Lib.cell_of_heap hy]; rfl
          have y8 : (w8.alloc (.cells #[.int .i64 (G.aE len S T c0 (zl [c1, c2, c3, c4, c5, c6, c7, c8])), .bool (G.aI len S T c0 (zl [c1, c2, c3, c4, c5, c6, c7, c8])), .int .i64 (G.aV len S T c0 (zl [c1, c2, c3, c4, c5, c6, c7, c8]))] 39)).cell? ⟨w.heap.size + 1 + 1, 8, none⟩ = some (.int .i64 c8) := by rw [Lib.cell_of_heap hy]; rfl
          clear hx hy
          go_wp2_with fail
          refine (st3_do2 (unhide HZ) (by omega) c0 (zl [c1, c2, c3, c4, c5, c6, c7, c8]) rfl).mono ?_
          rintro e w9 ⟨rfl, h9⟩
          clear x0 x1 x2 x3 x4 x5 x6 x7 x8 y0 y1 y2 y3 y4 y5 y6 y7 y8
          clear HZ
          simp only [ansC]
          have HZ := hide (St.box h9 (ansC len S T G c0 (zl [c1, c2, c3, c4, c5, c6, c7, c8])) 39)
          clear h9
          simp only [ansC] at HZ
          have hx := unhide HX1 (w9.alloc (.cells #[.int .i64 (G.aE len S T c0 (zl [c1, c2, c3, c4, c5, c6, c7, c8])), .bool (G.aI len S T c0 (zl [c1, c2, c3, c4, c5, c6, c7, c8])), .int .i64 (G.aV len S T c0 (zl [c1, c2, c3, c4, c5, c6, c7, c8]))] 39)) (St.b (unhide HZ))
          have hy := unhide HX2 (w9.alloc (.cells #[.int .i64 (G.aE len S T c0 (zl [c1, c2, c3, c4, c5, c6, c7, c8])), .bool (G.aI len S T c0 (zl [c1, c2, c3, c4, c5, c6, c7, c8])), .int .i64 (G.aV len S T c0 (zl [c1, c2, c3, c4, c5, c6, c7, c8]))] 39)) (St.b (unhide HZ))
          have x0 : (w9.alloc (.cells #[.int .i64 (G.aE len S T c0 (zl [c1, c2, c3, c4, c5, c6, c7, c8])), .bool (G.aI len S T c0 (zl [c1, c2, c3, c4, c5, c6, c7, c8])), .int .i64 (G.aV len S T c0 (zl [c1, c2, c3, c4, c5, c6, c7, c8]))] 39)).cell? ⟨w.heap.size + 1, 0, none⟩ = some (.int .i64 a0) := by rw [Lib.cell_of_heap hx]; rfl
          have x1 : (w9.alloc (.cells #[.int .i64 (G.aE len S T c0 (zl [c1, c2, c3, c4, c5, c6, c7, c8])), .bool (G.aI len S T c0 (zl [c1, c2, c3, c4, c5, c6, c7, c8])), .int .i64 (G.aV len S T c0 (zl [c1, c2, c3, c4, c5, c6, c7, c8]))] 39)).cell? ⟨w.heap.size + 1, 1, none⟩ = some (.int .i64 a1) := by rw [Lib.cell_of_heap hx]; rfl
          have x2 : (w9.alloc (.cells #[.int .i64 (G.aE len S T c0 (zl [c1, c2, c3, c4, c5, c6, c7, c8])), .bool (G.aI len S T c0 (zl [c1, c2, c3, c4, c5, c6, c7, c8])), .int .i64 (G.aV len S T c0 (zl [c1, c2, c3, c4, c5, c6, c7, c8]))] 39)).cell? ⟨w.heap.size + 1, 2, none⟩ = some (.int .i64 a2) := by rw [Lib.cell_of_heap hx]; rfl
          have x3 : (w9.alloc (.cells #[.int .i64 (G.aE len S T c0 (zl [c1, c2, c3, c4, c5, c6, c7, c8])), .bool (G.aI len S T c0 (zl [c1, c2, c3, c4, c5, c6, c7, c8])), .int .i64 (G.aV len S T c0 (zl [c1, c2, c3, c4, c5, c6, c7, c8]))] 39)).cell? ⟨w.heap.size + 1, 3, none⟩ = some (.int .i64 a3) := by rw [Lib.cell_of_heap hx]; rfl
          have x4 : (w9.alloc (.cells #[.int .i64 (G.aE len S T c0 (zl [c1, c2, c3, c4, c5, c6, c7, c8])), .bool (G.aI len S T c0 (zl [c1, c2, c3, c4, c5, c6, c7, c8])), .int .i64 (G.aV len S T c0 (zl [c1, c2, c3, c4, c5, c6, c7, c8]))] 39)).cell? ⟨w.heap.size + 1, 4, none⟩ = some (.int .i64 a4) := by rw [Lib.cell_of_heap hx]; rfl
          have x5 : (w9.alloc (.cells #[.int .i64 (G.aE len S T c0 (zl [c1, c2, c3, c4, c5, c6, c7, c8])), .bool (G.aI len S T c0 (zl [c1, c2, c3, c4, c5, c6, c7, c8])), .int .i64 (G.aV len S T c0 (zl [c1, c2, c3, c4, c5, c6, c7, c8]))] 39)).cell? ⟨w.heap.size + 1, 5, none⟩ = some (.int .i64 a5) := by rw [Lib.cell_of_heap hx]; rfl
          have x6 : (w9.alloc (.cells #[.int .i64 (G.aE len S T c0 (zl [c1, c2, c3, c4, c5, c6, c7, c8])), .bool (G.aI len S T c0 (zl [c1, c2, c3, c4, c5, c6, c7, c8])), .int .i64 (G.aV len S T c0 (zl [c1, c2, c3, c4, c5, c6, c7, c8]))] 39)).cell? ⟨w.heap.size + 1, 6, none⟩ = some (.int .i64 a6) := by rw [Lib.cell_of_heap hx]; rfl
          have x7 : (w9.alloc (.cells #[.int .i64 (G.aE len S T c0 (zl [c1, c2, c3, c4, c5, c6, c7, c8])), .bool (G.aI len S T c0 (zl [c1, c2, c3, c4, c5, c6, c7, c8])), .int .i64 (G.aV len S T c0 (zl [c1, c2, c3, c4, c5, c6, c7, c8]))] 39)).cell? ⟨w.heap.size + 1, 7, none⟩ = some (.int .i64 a7) := by rw [Lib.cell_of_heap hx]; rfl
          have x8 : (w9.alloc (.cells #[.int .i64 (G.aE len S T c0 (zl [c1, c2, c3, c4, c5, c6, c7, c8])), .bool (G.aI len S T c0 (zl [c1, c2, c3, c4, c5, c6, c7, c8])), .int .i64 (G.aV len S T c0 (zl [c1, c2, c3, c4, c5, c6, c7, c8]))] 39)).cell? ⟨w.heap.size + 1, 8, none⟩ = some (.int .i64 a8) := by rw [Lib.cell_of_heap hx]; rfl
          have y0 : (w9.alloc (.cells #[.int .i64 (G.aE len S T c0 (zl [c1, c2, c3, c4, c5, c6, c7, c8])), .bool (G.aI len S T c0 (zl [c1, c2, c3, c4, c5, c6, c7, c8])), .int .i64 (G.aV len S T c0 (zl [c1, c2, c3, c4, c5, c6, c7, c8]))] 39)).cell? ⟨w.heap.size + 1 + 1, 0, none⟩ = some (.int .i64 c0) := by rw [Lib.cell_of_heap hy]; rfl
          have y1 : (w9.alloc (.cells #[.int .i64 (G.aE len S T c0 (zl [c1, c2, c3, c4, c5, c6, c7, c8])), .bool (G.aI len S T c0 (zl [c1, c2, c3, c4, c5, c6, c7, c8])), .int .i64 (G.aV len S T c0 (zl [c1, c2, c3, c4, c5, c6, c7, c8]))] 39)).cell? ⟨w.heap.size + 1 + 1, 1, none⟩ = some (.int .i64 c1) := by rw [Lib.cell_of_heap hy]; rfl
          have y2 : (w9.alloc (.cells #[.int .i64 (G.aE len S T c0 (zl [c1, c2, c3, c4, c5, c6, c7, c8])), .bool (G.aI len S T c0 (zl [c1, c2, c3, c4, c5, c6, c7, c8])), .int .i64 (G.aV len S T c0 (zl [c1, c2, c3, c4, c5, c6, c7, c8]))] 39)).cell? ⟨w.heap.size + 1 + 1, 2, none⟩ = some (.int .i64 c2) := by rw [Lib.cell_of_heap hy]; rfl
          have y3 : (w9.alloc (.cells #[.int .i64 (G.aE len S T c0 (zl [c1, c2, c3, c4, c5, c6, c7, c8])), .bool (G.aI len S T c0 (zl [c1, c2, c3, c4, c5, c6, c7, c8])), .int .i64 (G.aV len S T c0 (zl [c1, c2, c3, c4, c5, c6, c7, c8]))] 39)).cell? ⟨w.heap.size + 1 + 1, 3, none⟩ = some (.int .i64 c3) := by rw [Lib.cell_of_heap hy]; rfl
          have y4 : (w9.alloc (.cells #[.int .i64 (G.aE len S T c0 (zl [c1, c2, c3, c4, c5, c6, c7, c8])), .bool (G.aI len S T c0 (zl [c1, c2, c3, c4, c5, c6, c7, c8])), .int .i64 (G.aV len S T c0 (zl [c1, c2, c3, c4, c5, c6, c7, c8]))] 39)).cell? ⟨w.heap.size + 1 + 1, 4, none⟩ = some (.int .i64 c4) := by rw [Lib.cell_of_heap hy]; rfl
          have y5 : (w9.alloc (.cells #[.int .i64 (G.aE len S T c0 (zl [c1, c2, c3, c4, c5, c6, c7, c8])), .bool (G.aI len S T c0 (zl [c1, c2, c3, c4, c5, c6, c7, c8])), .int .i64 (G.aV len S T c0 (zl [c1, c2, c3, c4, c5, c6, c7, c8]))] 39)).cell? ⟨w.heap.size + 1 + 1, 5, none⟩ = some (.int .i64 c5) := by rw [Lib.cell_of_heap hy]; rfl
          have y6 : (w9.alloc (.cells #[.int .i64 (G.aE len S T c0 (zl [c1, c2, c3, c4, c5, c6, c7, c8])), .bool (G.aI len S T c0 (zl [c1, c2, c3, c4, c5, c6, c7, c8])), .int .i64 (G.aV len S T c0 (zl [c1, c2, c3, c4, c5, c6, c7, c8]))] 39)).cell? ⟨w.heap.size + 1 + 1, 6, none⟩ = some (.int .i64 c6) := by rw [Lib.cell_of_heap hy]; rfl
          have y7 : (w9.alloc (.cells #[.int .i64 (G.aE len S T c0 (zl [c1, c2, c3, c4, c5, c6, c7, c8])), .bool (G.aI len S T c0 (zl [c1, c2, c3, c4, c5, c6, c7, c8])), .int .i64 (G.aV len S T c0 (zl [c1, c2, c3, c4, c5, c6, c7, c8]))] 39)).cell? ⟨w.heap.size + 1 + 1, 7, none⟩ = some (.int .i64 c7) := by rw [Lib.cell_of_heap hy]; rfl
          have y8 : (w9.alloc (.cells #[.int .i64 (G.aE len S T c0 (zl [c1, c2, c3, c4, c5, c6, c7, c8])), .bool (G.aI len S T c0 (zl [c1, c2, c3, c4, c5, c6, c7, c8])), .int .i64 (G.aV len S T c0 (zl [c1, c2, c3, c4, c5, c6, c7, c8]))] 39)).cell? ⟨w.heap.size + 1 + 1, 8, none⟩ = some (.int .i64 c8) := by rw [Lib.cell_of_heap hy]; rfl
          clear hx hy
          go_wp2_with fail
          refine (st3_do2 (unhide HZ) (by omega) a0 (zl [a1, a2, a3, a4, a5, a6, a7, a8]) rfl).mono ?_
          rintro e w10 ⟨rfl, h10⟩
          clear x0 x1 x2 x3 x4 x5 x6 x7 x8 y0 y1 y2 y3 y4 y5 y6 y7 y8
          clear HZ
          simp only [ansC]
          rw [(unhide RR).1, (unhide RR).2.1, (unhide RR).2.2.1]
          have HZ := hide (St.box h10 (ansC len S T G a0 (zl [a1, a2, a3, a4, a5, a6, a7, a8])) 39)
          clear h10
          simp only [ansC] at HZ
          have hcs := unhide HZ
          have m7 := fun j => St.cell (b := w7.heap.size) (c := #[.int .i64 (G.aE len S T a0 (zl [a1, a2, a3, a4, a5, a6, a7, a8])), .bool (G.aI len S T a0 (zl [a1, a2, a3, a4, a5, a6, a7, a8])), .int .i64 (G.aV len S T a0 (zl [a1, a2, a3, a4, a5, a6, a7, a8]))]) (t := 39) hcs (by simp) j
          have m8 := fun j => St.cell (b := w8.heap.size) (c := #[.int .i64 (G.aE len S T c0 (zl [c1, c2, c3, c4, c5, c6, c7, c8])), .bool (G.aI len S T c0 (zl [c1, c2, c3, c4, c5, c6, c7, c8])), .int .i64 (G.aV len S T c0 (zl [c1, c2, c3, c4, c5, c6, c7, c8]))]) (t := 39) hcs (by simp) j
          have m9 := fun j => St.cell (b := w9.heap.size) (c := #[.int .i64 (G.aE len S T c0 (zl [c1, c2, c3, c4, c5, c6, c7, c8])), .bool (G.aI len S T c0 (zl [c1, c2, c3, c4, c5, c6, c7, c8])), .int .i64 (G.aV len S T c0 (zl [c1, c2, c3, c4, c5, c6, c7, c8]))]) (t := 39) hcs (by simp) j
          have m10 := fun j => St.cell (b := w10.heap.size) (c := #[.int .i64 (G.aE len S T a0 (zl [a1, a2, a3, a4, a5, a6, a7, a8])), .bool (G.aI len S T a0 (zl [a1, a2, a3, a4, a5, a6, a7, a8])), .int .i64 (G.aV len S T a0 (zl [a1, a2, a3, a4, a5, a6, a7, a8]))]) (t := 39) hcs (by simp) j
          have hsame := hide (st_same hcs (i := 1) (k := 2) (by omega) (by omega) rfl rfl (by show Gr.n ((G.go len S T a0 (zl [a1, a2, a3, a4, a5, a6, a7, a8])).go len S T c0 (zl [c1, c2, c3, c4, c5, c6, c7, c8])) ≤ _; omega) (by show Gr.n ((G.go len S T c0 (zl [c1, c2, c3, c4, c5, c6, c7, c8])).go len S T a0 (zl [a1, a2, a3, a4, a5, a6, a7, a8])) ≤ _; rw [← (unhide RR).2.2.2.1]; omega) true (by
            constructor
            · intro _
              show Gr.view T S ((G.go len S T a0 (zl [a1, a2, a3, a4, a5, a6, a7, a8])).go len S T c0 (zl [c1, c2, c3, c4, c5, c6, c7, c8])) = Gr.view T S ((G.go len S T c0 (zl [c1, c2, c3, c4, c5, c6, c7, c8])).go len S T a0 (zl [a1, a2, a3, a4, a5, a6, a7, a8]))
              rw [(unhide RR).2.2.2.1]
            · intro _
              rfl))
          have HB := hide (hB0.trans ((St.b hcs).mono (by omega)))
          clear hcs HZ RR
          generalize G.aE len S T a0 (zl [a1, a2, a3, a4, a5, a6, a7, a8]) = e1 at *
          generalize G.aI len S T a0 (zl [a1, a2, a3, a4, a5, a6, a7, a8]) = i1 at *
          generalize G.aV len S T a0 (zl [a1, a2, a3, a4, a5, a6, a7, a8]) = v1 at *
          generalize G.aE len S T c0 (zl [c1, c2, c3, c4, c5, c6, c7, c8]) = e2 at *
          generalize G.aI len S T c0 (zl [c1, c2, c3, c4, c5, c6, c7, c8]) = i2 at *
          generalize G.aV len S T c0 (zl [c1, c2, c3, c4, c5, c6, c7, c8]) = v2 at *
          have n70 : (w10.alloc (.cells #[.int .i64 e1, .bool i1, .int .i64 v1] 39)).cell? ⟨w7.heap.size, 0, none⟩ = some (.int .i64 e1) := m7 0
          have n71 : (w10.alloc (.cells #[.int .i64 e1, .bool i1, .int .i64 v1] 39)).cell? ⟨w7.heap.size, 1, none⟩ = some (.bool i1) := m7 1
          have n72 : (w10.alloc (.cells #[.int .i64 e1, .bool i1, .int .i64 v1] 39)).cell? ⟨w7.heap.size, 2, none⟩ = some (.int .i64 v1) := m7 2
          have n80 : (w10.alloc (.cells #[.int .i64 e1, .bool i1, .int .i64 v1] 39)).cell? ⟨w8.heap.size, 0, none⟩ = some (.int .i64 e2) := m8 0
          have n81 : (w10.alloc (.cells #[.int .i64 e1, .bool i1, .int .i64 v1] 39)).cell? ⟨w8.heap.size, 1, none⟩ = some (.bool i2) := m8 1
          have n82 : (w10.alloc (.cells #[.int .i64 e1, .bool i1, .int .i64 v1] 39)).cell? ⟨w8.heap.size, 2, none⟩ = some (.int .i64 v2) := m8 2
          have n90 : (w10.alloc (.cells #[.int .i64 e1, .bool i1, .int .i64 v1] 39)).cell? ⟨w9.heap.size, 0, none⟩ = some (.int .i64 e2) := m9 0
          have n91 : (w10.alloc (.cells #[.int .i64 e1, .bool i1, .int .i64 v1] 39)).cell? ⟨w9.heap.size, 1, none⟩ = some (.bool i2) := m9 1
          have n92 : (w10.alloc (.cells #[.int .i64 e1, .bool i1, .int .i64 v1] 39)).cell? ⟨w9.heap.size, 2, none⟩ = some (.int .i64 v2) := m9 2
          have n100 : (w10.alloc (.cells #[.int .i64 e1, .bool i1, .int .i64 v1] 39)).cell? ⟨w10.heap.size, 0, none⟩ = some (.int .i64 e1) := m10 0
          have n101 : (w10.alloc (.cells #[.int .i64 e1, .bool i1, .int .i64 v1] 39)).cell? ⟨w10.heap.size, 1, none⟩ = some (.bool i1) := m10 1
          have n102 : (w10.alloc (.cells #[.int .i64 e1, .bool i1, .int .i64 v1] 39)).cell? ⟨w10.heap.size, 2, none⟩ = some (.int .i64 v1) := m10 2
          clear m7 m8 m9 m10
          go_wp2_with fail
          refine (unhide hsame).mono ?_
          rintro e w12 ⟨rfl, hb12, -⟩
          have HB := hide ((unhide HB).trans (hb12.mono (unhide HB).size))
          clear hb12 hsame
          go_wp2_with fail
          refine (works09_any _).mono ?_
          rintro e w13 ⟨rfl, hb13⟩
          go_wp2
          go_ret
          exact ⟨rfl, (unhide HB).trans (hb13.mono (unhide HB).size)⟩

theorem graphSwaps_walk (t : Int) (_ : (Lit.int .i64 t).wf = true) (sp : Int) (_ : (Lit.int .i64 sp).wf = true) (A : Option Addr) (len cap : Nat) (B : Option Addr) (n bc : Nat) (a0 : Int) (_ : (Lit.int .i64 a0).wf = true) (a1 : Int) (_ : (Lit.int .i64 a1).wf = true) (a2 : Int) (_ : (Lit.int .i64 a2).wf = true) (a3 : Int) (_ : (Lit.int .i64 a3).wf = true) (a4 : Int) (_ : (Lit.int .i64 a4).wf = true) (a5 : Int) (_ : (Lit.int .i64 a5).wf = true) (a6 : Int) (_ : (Lit.int .i64 a6).wf = true) (a7 : Int) (_ : (Lit.int .i64 a7).wf = true) (a8 : Int) (_ : (Lit.int .i64 a8).wf = true) (c0 : Int) (_ : (Lit.int .i64 c0).wf = true) (c1 : Int) (_ : (Lit.int .i64 c1).wf = true) (c2 : Int) (_ : (Lit.int .i64 c2).wf = true) (c3 : Int) (_ : (Lit.int .i64 c3).wf = true) (c4 : Int) (_ : (Lit.int .i64 c4).wf = true) (c5 : Int) (_ : (Lit.int .i64 c5).wf = true) (c6 : Int) (_ : (Lit.int .i64 c6).wf = true) (c7 : Int) (_ : (Lit.int .i64 c7).wf = true) (c8 : Int) (_ : (Lit.int .i64 c8).wf = true) (w : World) (hr : RowOk w 5 [.str] A len cap) (hr2 : RowOk w 5 [.int .i64, .int .i64, .int .i64, .int .i64, .int .i64, .int .i64, .int .i64, .int .i64, .int .i64] B n bc) :
    Calls Try.prog 9 #[.agg #[.int .i64 t, .int .i64 sp, .slice A len cap], .slice B n bc, .agg #[.int .i64 a0, .int .i64 a1, .int .i64 a2, .int .i64 a3, .int .i64 a4, .int .i64 a5, .int .i64 a6, .int .i64 a7, .int .i64 a8], .agg #[.int .i64 c0, .int .i64 c1, .int .i64 c2, .int .i64 c3, .int .i64 c4, .int .i64 c5, .int .i64 c6, .int .i64 c7, .int .i64 c8]] w fun e w' => e = .returned (.bool true) ∧ Below w.heap.size w w' := by
  have hm := hr.1
  have hm2 := hr.2.1
  have hn := hr2.1
  have hn2 := hr2.2.1
  unfold maxLen at hm2 hn2
  obtain ⟨S, H, hS⟩ := ShOk.of_row hr
  obtain ⟨zv, HA⟩ := ActOk.of_row hr2
  cases e1 : okPB t sp len S with
  | false => exact swaps_bad t sp A len cap B n bc (by omega) (by omega) a0 a1 a2 a3 a4 a5 a6 a7 a8 c0 c1 c2 c3 c4 c5 c6 c7 c8 S w H hS e1
  | true =>
    have h8 := (okPB_iff.1 e1).1
    obtain ⟨T, rfl⟩ : ∃ T : Nat, t = (T : Int) := ⟨t.toNat, by omega⟩
    cases e2 : fewB len S n 40 with
    | false => exact swaps_many T sp A len cap B n bc (by omega) (by omega) a0 a1 a2 a3 a4 a5 a6 a7 a8 c0 c1 c2 c3 c4 c5 c6 c7 c8 S w H hS e1 e2
    | true => exact swaps_ok T sp A len cap B n bc (by omega) (by omega) a0 a1 a2 a3 a4 a5 a6 a7 a8 c0 c1 c2 c3 c4 c5 c6 c7 c8 S zv w H hS (hide HA) e2 e1
end Go.Proofs.Ytbkaopeajjechaa

