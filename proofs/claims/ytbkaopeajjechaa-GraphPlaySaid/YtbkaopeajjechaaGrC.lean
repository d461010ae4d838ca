/- The walks of package op: operations that may be. -/
import Derived.Test.YtbkaopeajjechaaGrB
import Derived.Test.YtbkaopeajjechaaFe
import Derived.Deep.MidRow
namespace Go.Proofs.Ytbkaopeajjechaa
set_option linter.unusedVariables false
set_option linter.unusedSimpArgs false
open Go.RowKit Go.Maps

abbrev fv (n : Nat) : Value := .func (.func n) #[] #[]
/-- A part: how its number is reached. -/
def partV : Nat → Value
  | 0 => .agg #[fv 83, .nilFunc, .bool true]
  | 1 => .agg #[fv 84, .nilFunc, .bool true]
  | 2 => .agg #[fv 85, .nilFunc, .bool true]
  | 3 => .agg #[fv 86, .nilFunc, .bool false]
  | 4 => .agg #[fv 87, .nilFunc, .bool false]
  | 5 => .agg #[.nilFunc, fv 88, .bool false]
  | _ => .agg #[.nilFunc, fv 89, .bool false]
def partsV : Value := .agg #[fv 83, .nilFunc, .bool true, fv 84, .nilFunc, .bool true, fv 85, .nilFunc, .bool true, fv 86, .nilFunc, .bool false, fv 87, .nilFunc, .bool false,
  .nilFunc, fv 88, .bool false, .nilFunc, fv 89, .bool false]

theorem there_new (w : World) (Z : Array Value) (T : TypeId) : (w.alloc (.cells Z T)).there w.heap.size 0 Z.size := fun j hj => by
  refine ⟨?_, ?_⟩
  · rw [Nat.zero_add, World.cell?_alloc_new, Array.getElem?_eq_getElem hj]
    rfl
  · simp

theorem there_newN (w : World) (Z : Array Value) (T : TypeId) (n : Nat) (h : Z.size = n) : (w.alloc (.cells Z T)).there w.heap.size 0 n := h ▸ there_new w Z T

theorem below_setCells {n b : Nat} {A : World} (hb : n ≤ b) : ∀ (vs : List Value) (o : Nat) (B : World), Below n A B → Below n A (B.setCells b o vs)
  | [], _, _, h => h
  | v :: r, o, B, h => by
    show Below n A ((B.setCell ⟨b, o, none⟩ v).setCells b (o + 1) r)
    exact below_setCells hb r (o + 1) _ (h.setCell (p := ⟨b, o, none⟩) hb v)

theorem size_setCells9 (b : Nat) : ∀ (vs : List Value) (o : Nat) (w : World), (w.setCells b o vs).heap.size = w.heap.size
  | [], _, _ => rfl
  | v :: r, o, w => by
    show ((w.setCell ⟨b, o, none⟩ v).setCells b (o + 1) r).heap.size = _
    rw [size_setCells9 b r, World.size_setCell]

/-- A new variable of so many cells, written: what it reads as. -/
theorem new_row (w : World) (Z C : Array Value) (T : TypeId) (hZ : Z.size = C.size) (hu : (match Try.prog.underlying T with | some d => d.isRow | none => false) = true) (hi : (Try.prog.info? T).map (·.size) = some C.size) :
    (loadVar T ⟨w.heap.size, 0, none⟩).run Try.prog ((w.alloc (.cells Z T)).setCells w.heap.size 0 C.toList) = .ok (.agg C) ((w.alloc (.cells Z T)).setCells w.heap.size 0 C.toList) := by
  have ht := there_new w Z T
  rw [hZ] at ht
  obtain ⟨d, hu, hd⟩ : ∃ d, Try.prog.underlying T = some d ∧ d.isRow = true := by
    cases e : Try.prog.underlying T with
    | none => rw [e] at hu; cases hu
    | some d => rw [e] at hu; exact ⟨d, rfl, hu⟩
  have hr := World.rangeAt_setCells_same (w.alloc (.cells Z T)) w.heap.size 0 C.toList (by simpa using ht)
  have := run_loadVar_mid (P := Try.prog) _ w.heap.size 0 T C.toList d hr hu hd (by simpa using hi)
  simpa using this

theorem below_row (w : World) (Z C : Array Value) (T : TypeId) : Below w.heap.size w ((w.alloc (.cells Z T)).setCells w.heap.size 0 C.toList) :=
  below_setCells (Nat.le_refl _) _ _ _ ((Below.refl _ _).alloc (Nat.le_refl _) _)

theorem results_cell1 {P : Program} {fn : Func} {p : Tmp} {ty : TypeId} (h : fn.results = #[.cell p ty]) {tmps : Array Value} {w : World} {b : Addr} {v : Value} (ha : tmps.getD p undef = .pointer (some b)) (hv : (loadVar ty b).run P w = .ok v w) :
    (results fn tmps).run P w = .ok v w := by
  rw [Array.getD_eq_getD_getElem?] at ha
  unfold results
  rw [h]
  simp [asAddr, ha, hv]

set_option maxHeartbeats 1000000 in
theorem parts_any (w : World) : Calls Try.prog 53 #[] w fun e w' => e = .returned partsV ∧ Below w.heap.size w w' := by
  have hld := new_row w #[.nilFunc, .nilFunc, .bool false, .nilFunc, .nilFunc, .bool false, .nilFunc, .nilFunc, .bool false, .nilFunc, .nilFunc, .bool false, .nilFunc, .nilFunc, .bool false, .nilFunc, .nilFunc, .bool false, .nilFunc, .nilFunc, .bool false]
    #[fv 83, .nilFunc, .bool true, fv 84, .nilFunc, .bool true, fv 85, .nilFunc, .bool true, fv 86, .nilFunc, .bool false, fv 87, .nilFunc, .bool false, .nilFunc, fv 88, .bool false, .nilFunc, fv 89, .bool false]
    118 rfl (by kernel_rfl) (by kernel_rfl)
  go_enter Try.func53, Try.ntmps53
  go_wp2_with (refine wpList_store_mid rfl 118 (.tmp 0) (.tmp 8) rfl w.heap.size 0 _ rfl rfl (there_new w _ _) (by kernel_rfl) (by kernel_rfl) ?_)
  refine bodyPost_ret (v := partsV) (results_cell1 rfl rfl hld) rfl ?_
  exact ⟨rfl, below_row w _ _ _⟩

/-- A variable that was written: what it reads as. -/
theorem row_reads (W : World) (b : Nat) (C : Array Value) (T : TypeId) (ht : W.there b 0 C.size) (hu : (match Try.prog.underlying T with | some d => d.isRow | none => false) = true) (hi : (Try.prog.info? T).map (·.size) = some C.size) :
    (loadVar T ⟨b, 0, none⟩).run Try.prog (W.setCells b 0 C.toList) = .ok (.agg C) (W.setCells b 0 C.toList) := by
  obtain ⟨d, hu, hd⟩ : ∃ d, Try.prog.underlying T = some d ∧ d.isRow = true := by
    cases e : Try.prog.underlying T with
    | none => rw [e] at hu; cases hu
    | some d => rw [e] at hu; exact ⟨d, rfl, hu⟩
  have := run_loadVar_mid (P := Try.prog) _ b 0 T C.toList d (World.rangeAt_setCells_same W b 0 C.toList (by simpa using ht)) hu hd (by simpa using hi)
  simpa using this

/-- What a kind names. -/
def nmL : Nat → List Nat
  | 1 => [0, 4]
  | 2 => [0, 3, 1]
  | 3 => [0, 3, 1]
  | 4 => [0, 3, 1, 2]
  | 5 => [0, 3]
  | 6 => [0, 3, 5]
  | 7 => [0, 3, 5, 6]
  | 8 => [0, 1]
  | 9 => [0, 1]
  | 10 => [0]
  | _ => []
def nmS : Nat → ByteArray
  | 1 => { data := #[97, 108, 108, 111, 99] }
  | 2 => { data := #[103, 101, 116] }
  | 3 => { data := #[112, 117, 116] }
  | 4 => { data := #[99, 97, 115] }
  | 5 => { data := #[103, 101, 116, 105] }
  | 6 => { data := #[112, 117, 116, 105] }
  | 7 => { data := #[99, 97, 115, 105] }
  | 8 => { data := #[101, 113] }
  | 9 => { data := #[109, 111, 118, 101] }
  | 10 => { data := #[100, 114, 111, 112] }
  | 11 => { data := #[99, 111, 108, 108, 101, 99, 116] }
  | _ => { data := #[] }
/-- Where the names of a kind lie. -/
def nmA (n : Nat) : Nat → Option Addr
  | 1 => some ⟨n + 1, 0, none⟩
  | 2 => some ⟨n + 1 + 1, 0, none⟩
  | 3 => some ⟨n + 1 + 1 + 1, 0, none⟩
  | 4 => some ⟨n + 1 + 1 + 1 + 1, 0, none⟩
  | 5 => some ⟨n + 1 + 1 + 1 + 1 + 1, 0, none⟩
  | 6 => some ⟨n + 1 + 1 + 1 + 1 + 1 + 1, 0, none⟩
  | 7 => some ⟨n + 1 + 1 + 1 + 1 + 1 + 1 + 1, 0, none⟩
  | 8 => some ⟨n + 1 + 1 + 1 + 1 + 1 + 1 + 1 + 1, 0, none⟩
  | 9 => some ⟨n + 1 + 1 + 1 + 1 + 1 + 1 + 1 + 1 + 1, 0, none⟩
  | 10 => some ⟨n + 1 + 1 + 1 + 1 + 1 + 1 + 1 + 1 + 1 + 1, 0, none⟩
  | _ => none
/-- The kinds with their names and what they name. -/
def rowsV (n : Nat) : Value := .agg #[.string { data := #[] }, .slice none 0 0, .string { data := #[97, 108, 108, 111, 99] }, .slice (some ⟨n + 1, 0, none⟩) 2 2, .string { data := #[103, 101, 116] }, .slice (some ⟨n + 1 + 1, 0, none⟩) 3 3, .string { data := #[112, 117, 116] }, .slice (some ⟨n + 1 + 1 + 1, 0, none⟩) 3 3, .string { data := #[99, 97, 115] }, .slice (some ⟨n + 1 + 1 + 1 + 1, 0, none⟩) 4 4, .string { data := #[103, 101, 116, 105] }, .slice (some ⟨n + 1 + 1 + 1 + 1 + 1, 0, none⟩) 2 2, .string { data := #[112, 117, 116, 105] }, .slice (some ⟨n + 1 + 1 + 1 + 1 + 1 + 1, 0, none⟩) 3 3, .string { data := #[99, 97, 115, 105] }, .slice (some ⟨n + 1 + 1 + 1 + 1 + 1 + 1 + 1, 0, none⟩) 4 4, .string { data := #[101, 113] }, .slice (some ⟨n + 1 + 1 + 1 + 1 + 1 + 1 + 1 + 1, 0, none⟩) 2 2, .string { data := #[109, 111, 118, 101] }, .slice (some ⟨n + 1 + 1 + 1 + 1 + 1 + 1 + 1 + 1 + 1, 0, none⟩) 2 2, .string { data := #[100, 114, 111, 112] }, .slice (some ⟨n + 1 + 1 + 1 + 1 + 1 + 1 + 1 + 1 + 1 + 1, 0, none⟩) 1 1, .string { data := #[99, 111, 108, 108, 101, 99, 116] }, .slice none 0 0]
def NmOk (W : World) (A : Option Addr) (l : List Nat) : Prop := 0 < l.length → ∃ b, A = some ⟨b, 0, none⟩ ∧ b < W.heap.size ∧ ∀ (i x : Nat), l[i]? = some x → W.cell? ⟨b, i, none⟩ = some (.int .i64 x)

theorem NmOk.keep {w W : World} {A : Option Addr} {l : List Nat} (h : NmOk w A l) (hb : Below w.heap.size w W) : NmOk W A l := fun hl => by
  obtain ⟨b, rfl, hlt, hc⟩ := h hl
  exact ⟨b, rfl, Nat.lt_of_lt_of_le hlt hb.size, fun i x hx => (hb.cell (p := ⟨b, i, none⟩) hlt).trans (hc i x hx)⟩

set_option maxRecDepth 100000 in
set_option maxHeartbeats 4000000 in
theorem rows_any (w : World) : Calls Try.prog 100 #[] w fun e w' => e = .returned (rowsV w.heap.size) ∧ (∀ k, NmOk w' (nmA w.heap.size k) (nmL k)) ∧ Below w.heap.size w w' := by
  go_enter Try.func100, Try.ntmps100
  go_wp2_with (first | (refine wpList_store_mid rfl 163 (.tmp 0) (.tmp 22) rfl w.heap.size 0 _ rfl rfl ?ht (by kernel_rfl) (by kernel_rfl) ?_))
  case ht =>
    iterate 10 (with_reducible refine World.there_alloc ?_ _)
    exact there_newN w _ _ _ rfl
  refine bodyPost_ret (v := rowsV w.heap.size) (results_cell1 rfl rfl (row_reads _ _ _ _ ?_ (by kernel_rfl) (by kernel_rfl))) rfl ⟨rfl, ?_, ?_⟩
  · iterate 10 (with_reducible refine World.there_alloc ?_ _)
    exact there_newN w _ _ _ rfl
  · intro k hl
    unfold nmL at hl ⊢
    unfold nmA
    split at hl <;> first | (exfalso; revert hl; simp; done) | skip
    all_goals
      refine ⟨_, rfl, by simp only [size_setCells9, World.size_alloc] <;> omega, fun i x hx => ?_⟩
      rw [World.cell?_setCells_out _ _ _ _ _ (by intro hb; exfalso; revert hb; simp <;> omega)]
      rcases i with _ | _ | _ | _ | i <;> (try simp only [List.getElem?_cons_zero, List.getElem?_cons_succ, List.getElem?_nil, Option.some.injEq, reduceCtorEq] at hx) <;> (try subst hx) <;> (try go_simp)
  · refine below_setCells (Nat.le_refl _) _ _ _ ?_
    repeat (first | (with_reducible exact Below.refl _ _) | (with_reducible assumption) | (with_reducible refine Below.setCell ?_ (by first | (simp; done) | (simp; omega) | omega) _) | (with_reducible refine Below.alloc ?_ (by first | (simp; done) | (simp; omega) | omega) _) | (with_reducible refine Below.drew ?_))
end Go.Proofs.Ytbkaopeajjechaa
