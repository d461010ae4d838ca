/- Arguments opened to cells: values of whatever type made of whole numbers, bools, strings, structs of these, and slices of these. No program in sight. -/
import Derived.Test.YtbkaopeajjechaaLk
import Derived.Deep.Slices
import Derived.OpenShut
namespace Go.Proofs.Ytbkaopeajjechaa
set_option linter.unusedVariables false
set_option linter.unusedSimpArgs false
open Go.RowKit Go.ChangeShapes Go.WideShapes Go.ChangeAt

inductive Leaf where
  | int (k : IntKind)
  | bool
  | str
  | row (ls : List Leaf)

/-- What a cell of that kind is, slices up to n deep. -/
def Leaf.ok (w : World) : Nat → Leaf → Value → Prop
  | _, .int k, v => ∃ n, v = .int k n ∧ (Lit.int k n).wf = true
  | _, .bool, v => ∃ b, v = .bool b
  | _, .str, v => ∃ s : ByteArray, v = .string s ∧ s.size ≤ maxLen
  | 0, .row _, _ => False
  | n + 1, .row ls, v => ∃ (A : Option Addr) (len cap : Nat), v = .slice A len cap ∧ len ≤ cap ∧ cap ≤ maxLen ∧
      (0 < len → ∃ b o, A = some ⟨b, o, none⟩ ∧ b < w.heap.size ∧ ∀ i, i < len → ∀ j L, ls[j]? = some L → ∃ u, w.cell? ⟨b, o + (i * ls.length + j), none⟩ = some u ∧ Leaf.ok w n L u)

theorem Leaf.ok_int {w : World} {n : Nat} {k : IntKind} {v : Value} (h : Leaf.ok w n (.int k) v) : ∃ m, v = .int k m ∧ (Lit.int k m).wf = true := by
  cases n <;> exact h
theorem Leaf.ok_bool {w : World} {n : Nat} {v : Value} (h : Leaf.ok w n .bool v) : ∃ b, v = .bool b := by
  cases n <;> exact h
theorem Leaf.ok_str {w : World} {n : Nat} {v : Value} (h : Leaf.ok w n .str v) : ∃ s : ByteArray, v = .string s ∧ s.size ≤ maxLen := by
  cases n <;> exact h

def flatFs (P : Program) (f : TypeId → Option (List Leaf)) : List Field → Nat → Option (List Leaf)
  | [], _ => some []
  | x :: r, o => match f x.type with
    | some l => if x.offset = o ∧ P.cellsOf x.type = l.length then (flatFs P f r (o + l.length)).map (l ++ ·) else none
    | none => none

/-- The kinds of a type's cells. -/
def flat (P : Program) : Nat → TypeId → Option (List Leaf)
  | 0, _ => none
  | n + 1, t => match P.underlying t with
    | some (.int k) => some [.int k]
    | some .bool => some [.bool]
    | some .string => some [.str]
    | some (.slice e) => match flat P n e with
      | some l => if P.cellsOf e = l.length ∧ 0 < l.length then some [.row l] else none
      | none => none
    | some (.struct fs) => match flatFs P (flat P n) fs.toList 0 with
      | some l => if P.cellsOf t = l.length then some l else none
      | none => none
    | _ => none

def Cells (w : World) (m : Nat) (ls : List Leaf) (cs : List Value) : Prop := cs.length = ls.length ∧ ∀ (j : Nat) (L : Leaf) (v : Value), ls[j]? = some L → cs[j]? = some v → L.ok w m v

section
variable {H : Type} {enc : TypeId × Value → H} {P : Program} {w : World} {base : Nat} {spare : Nat → Bool} {held : Bool}

theorem cells_flatFs (n m : Nat) (ih : ∀ (t : TypeId) (ls : List Leaf) (f : Nat) (cs : List Value) (x : DataW H × List MemPlace), flat P n t = some ls → DataW.trod enc P w base spare held f t cs = some x → Cells w m ls cs) :
    ∀ (fs : List Field) (o : Nat) (ls : List Leaf) (cs : List Value) (k : Nat) (xs : List (DataW H × List MemPlace)), flatFs P (flat P n) fs o = some ls → xs.length = fs.length →
      (∀ (i : Nat) (f : Field), fs[i]? = some f → DataW.trod enc P w base spare held k f.type ((cs.drop f.offset).take (P.cellsOf f.type)) = xs[i]?) →
      ∀ (j : Nat) (L : Leaf) (v : Value), ls[j]? = some L → cs[o + j]? = some v → L.ok w m v := by
  intro fs
  induction fs with
  | nil =>
    intro o ls cs k xs h _ _ j L v hL _
    simp [flatFs] at h
    subst h
    simp at hL
  | cons x r ihr =>
    intro o ls cs k xs h hl hf j L v hL hv
    unfold flatFs at h
    cases hx : flat P n x.type with
    | none => simp [hx] at h
    | some l =>
      simp only [hx] at h
      split at h
      · rename_i hc
        obtain ⟨ho, hk⟩ := hc
        cases hr : flatFs P (flat P n) r (o + l.length) with
        | none => simp [hr] at h
        | some lr =>
          simp only [hr, Option.map_some, Option.some.injEq] at h
          subst h
          match xs, hl with
          | y :: ys, hl =>
            have h0 := hf 0 x rfl
            simp only [List.getElem?_cons_zero] at h0
            have hc0 := ih x.type l k _ _ hx h0
            by_cases hj : j < l.length
            · rw [List.getElem?_append_left hj] at hL
              refine hc0.2 j L v hL ?_
              rw [hk, List.getElem?_take_of_lt hj, List.getElem?_drop, ho]
              exact hv
            · rw [List.getElem?_append_right (by omega)] at hL
              refine ihr (o + l.length) lr cs k ys hr (by simpa using hl) (fun i f hi => by simpa using hf (i + 1) f (by simpa using hi)) (j - l.length) L v hL ?_
              rw [show o + l.length + (j - l.length) = o + j from by omega]
              exact hv
      · cases h

theorem Leaf.ok_more {w : World} : ∀ (n : Nat) (L : Leaf) (v : Value), L.ok w n v → L.ok w (n + 1) v := by
  intro n
  induction n with
  | zero => intro L v h; cases L <;> first | exact h | exact h.elim
  | succ n ih =>
    intro L v h
    cases L with
    | row ls =>
      obtain ⟨A, len, cap, e, h1, h2, h3⟩ := h
      refine ⟨A, len, cap, e, h1, h2, fun hl => ?_⟩
      obtain ⟨b, o, e1, h4, h5⟩ := h3 hl
      refine ⟨b, o, e1, h4, fun i hi j L hL => ?_⟩
      obtain ⟨u, hu, hk⟩ := h5 i hi j L hL
      exact ⟨u, hu, ih _ _ hk⟩
    | _ => exact h

theorem Cells.more {n : Nat} {ls : List Leaf} {cs : List Value} (h : Cells w n ls cs) : Cells w (n + 1) ls cs := ⟨h.1, fun j L v a b => Leaf.ok_more n L v (h.2 j L v a b)⟩

theorem cells_one (m : Nat) {L : Leaf} {v : Value} (h : L.ok w m v) : Cells w m [L] [v] := by
  refine ⟨rfl, fun j M u hM hu => ?_⟩
  match j, hM, hu with
  | 0, hM, hu =>
    simp at hM hu
    subst hM
    subst hu
    exact h

theorem block_lt {a : Addr} {v : Value} (h : w.cell? a = some v) : a.block < w.heap.size := by
  rcases Nat.lt_or_ge a.block w.heap.size with hl | hg
  · exact hl
  · unfold World.cell? at h
    rw [Array.getElem?_eq_none hg] at h
    simp at h

theorem cells_flat : ∀ (n : Nat) (t : TypeId) (ls : List Leaf) (f : Nat) (cs : List Value) (x : DataW H × List MemPlace), flat P n t = some ls → DataW.trod enc P w base spare held f t cs = some x → Cells w n ls cs := by
  intro n
  induction n with
  | zero => intro t ls f cs x h; simp [flat] at h
  | succ n ih =>
    intro t ls f cs x h hx
    unfold flat at h
    split at h
    · rename_i k hk
      obtain ⟨m, rfl, _, hw⟩ := DataW.trod_int hk hx
      cases h
      exact cells_one _ ⟨m, rfl, hw⟩
    · rename_i hk
      obtain ⟨m, rfl, _⟩ := DataW.trod_bool hk hx
      cases h
      exact cells_one _ ⟨m, rfl⟩
    · rename_i hk
      obtain ⟨m, rfl, _, hs⟩ := DataW.trod_string hk hx
      cases h
      exact cells_one _ ⟨m, rfl, hs⟩
    · rename_i e hk
      split at h
      · rename_i l hl
        split at h
        · rename_i hc
          obtain ⟨hc, hpos⟩ := hc
          cases h
          rcases Deep.open_slice hk hx with ⟨rfl, _⟩ | ⟨a, len, cap, m, k, D, Pl, rfl, _, h1, h2, hm, _, hi⟩
          · exact cells_one _ ⟨none, 0, 0, rfl, Nat.le_refl _, by unfold maxLen; omega, fun h => absurd h (by omega)⟩
          · refine cells_one _ ⟨some a, len, cap, rfl, h1, h2, fun hlen => ?_⟩
            have hmm : len ≤ m := by rw [hm]; split <;> omega
            have hcell : ∀ i, i < len → ∀ j L, l[j]? = some L → ∃ u, w.cell? ((a.add (i * l.length)).add j) = some u ∧ L.ok w n u := by
              intro i hil j L hL
              obtain ⟨cs', hcs, ht⟩ := hi i (by omega)
              rw [hc] at hcs
              obtain ⟨_, hcl, hat⟩ := World.cells?_some hcs
              have hok := ih e l k cs' _ hl ht
              have hj : j < l.length := (List.getElem?_eq_some_iff.1 hL).1
              have hv : cs'[j]? = some (cs'[j]'(by omega)) := List.getElem?_eq_getElem (by omega)
              exact ⟨_, (hat j hj).trans hv, hok.2 j L _ hL hv⟩
            obtain ⟨b, o, sp⟩ := a
            obtain ⟨u0, hu0, _⟩ := hcell 0 hlen 0 (l[0]'hpos) (List.getElem?_eq_getElem hpos)
            have hs : sp = none := by simpa [Addr.add] using World.cell?_spot hu0
            subst hs
            refine ⟨b, o, rfl, by simpa [Addr.add] using block_lt hu0, fun i hil j L hL => ?_⟩
            obtain ⟨u, hu, hk⟩ := hcell i hil j L hL
            refine ⟨u, ?_, hk⟩
            rw [← hu]
            congr 1
            unfold Addr.add
            by_cases h0 : i * l.length = 0 <;> by_cases h1 : j = 0 <;> simp [h0, h1] <;> omega
        · cases h
      · cases h
    · rename_i fs hk
      split at h
      · rename_i l hl
        split at h
        · rename_i hc
          cases h
          obtain ⟨xs, m, _, _, hlen, hxl, hf⟩ := DataW.trod_struct hk hx
          refine ⟨by omega, fun j L v hL hv => Leaf.ok_more n L v ?_⟩
          exact cells_flatFs n n ih fs.toList 0 ls cs m xs hl (by simpa using hxl) (fun i f hi => hf i f (by simpa using hi)) j L v hL (by simpa using hv)
        · cases h
      · cases h
    · cases h

/-- An argument's cells, by its type alone. -/
theorem cells_arg {t : TypeId} {v : Value} {d : DataW H} {ps : List MemPlace} (n : Nat) (ls : List Leaf) (hf : flat P n t = some ls) (h : DataW.Trod enc P w base spare held t v d ps) : Cells w n ls v.cells.toList := by
  obtain ⟨f, hx⟩ := h
  exact cells_flat n t ls f _ _ hf hx
end

/-- What is known of a slice that came in. -/
def RowOk (w : World) (n : Nat) (ls : List Leaf) (A : Option Addr) (len cap : Nat) : Prop := len ≤ cap ∧ cap ≤ maxLen ∧
  (0 < len → ∃ b o, A = some ⟨b, o, none⟩ ∧ b < w.heap.size ∧ ∀ i, i < len → ∀ j L, ls[j]? = some L → ∃ u, w.cell? ⟨b, o + (i * ls.length + j), none⟩ = some u ∧ Leaf.ok w n L u)

/-- The same, its cells named. -/
theorem RowOk.open_ {w : World} {n : Nat} {ls : List Leaf} {A : Option Addr} {len cap : Nat} (h : RowOk w n ls A len cap) :
    ∃ (b o : Nat) (f : Nat → Nat → Value), (0 < len → A = some ⟨b, o, none⟩ ∧ b < w.heap.size) ∧ ∀ i, i < len → ∀ j L, ls[j]? = some L → w.cell? ⟨b, o + (i * ls.length + j), none⟩ = some (f i j) ∧ Leaf.ok w n L (f i j) := by
  obtain ⟨_, _, h⟩ := h
  by_cases hl : 0 < len
  · obtain ⟨b, o, hA, hb, hc⟩ := h hl
    refine ⟨b, o, fun i j => (w.cell? ⟨b, o + (i * ls.length + j), none⟩).getD undef, fun _ => ⟨hA, hb⟩, fun i hi j L hL => ?_⟩
    obtain ⟨u, hu, hk⟩ := hc i hi j L hL
    dsimp only
    rw [hu]
    exact ⟨rfl, hk⟩
  · exact ⟨0, 0, fun _ _ => undef, fun h => absurd h hl, fun i hi => absurd hi (by omega)⟩

theorem Cells.at_ {w : World} {n : Nat} {ls : List Leaf} {cs : List Value} (h : Cells w n ls cs) (j : Nat) (L : Leaf) (hL : ls[j]? = some L) : ∃ v, cs[j]? = some v ∧ L.ok w n v := by
  have hj := (List.getElem?_eq_some_iff.1 hL).1
  have hv : cs[j]? = some (cs[j]'(by rw [h.1]; exact hj)) := List.getElem?_eq_getElem _
  exact ⟨_, hv, h.2 j L _ hL hv⟩
theorem wf_u64 {n : Int} (h : (Lit.int .u64 n).wf = true) : 0 ≤ n ∧ n ≤ 18446744073709551615 := by
  have hmin : IntKind.u64.min = 0 := rfl
  have hmax : IntKind.u64.max = 18446744073709551615 := rfl
  simp only [Lit.wf, Bool.and_eq_true, decide_eq_true_eq] at h
  omega
theorem wf_i64 {n : Int} (h : (Lit.int .i64 n).wf = true) : -9223372036854775808 ≤ n ∧ n ≤ 9223372036854775807 := by
  have hmin : IntKind.i64.min = -9223372036854775808 := rfl
  have hmax : IntKind.i64.max = 9223372036854775807 := rfl
  simp only [Lit.wf, Bool.and_eq_true, decide_eq_true_eq] at h
  omega

/-- A slice of whole numbers. -/
theorem RowOk.ints {w : World} {n : Nat} {k : IntKind} {A : Option Addr} {len cap : Nat} (h : RowOk w n [.int k] A len cap) :
    ∃ (b o : Nat) (z : Nat → Int), (0 < len → A = some ⟨b, o, none⟩ ∧ b < w.heap.size) ∧ ∀ i, i < len → w.cell? ⟨b, o + i, none⟩ = some (.int k (z i)) ∧ (Lit.int k (z i)).wf = true := by
  obtain ⟨b, o, f, hA, hc⟩ := h.open_
  refine ⟨b, o, fun i => intOf (f i 0), hA, fun i hi => ?_⟩
  obtain ⟨h1, h0⟩ := hc i hi 0 (.int k) rfl
  obtain ⟨m, h2, h3⟩ := Leaf.ok_int h0
  simp only [List.length_cons, List.length_nil, Nat.zero_add, Nat.mul_one, Nat.add_zero] at h1
  have e : intOf (f i 0) = m := by rw [h2]; rfl
  dsimp only
  rw [e, h1, h2]
  exact ⟨rfl, h3⟩

/-- A slice of structs of whole numbers. -/
theorem RowOk.intN {w : World} {n : Nat} (ks : List IntKind) {A : Option Addr} {len cap : Nat} (h : RowOk w n (ks.map .int) A len cap) :
    ∃ (b o : Nat) (z : Nat → Nat → Int), (0 < len → A = some ⟨b, o, none⟩ ∧ b < w.heap.size) ∧ ∀ i, i < len → ∀ j k, ks[j]? = some k → w.cell? ⟨b, o + i * ks.length + j, none⟩ = some (.int k (z i j)) ∧ (Lit.int k (z i j)).wf = true := by
  obtain ⟨b, o, f, hA, hc⟩ := h.open_
  refine ⟨b, o, fun i j => intOf (f i j), hA, fun i hi j k hj => ?_⟩
  obtain ⟨h1, h0⟩ := hc i hi j (.int k) (by rw [List.getElem?_map, hj]; rfl)
  obtain ⟨m, h2, h3⟩ := Leaf.ok_int h0
  rw [List.length_map, ← Nat.add_assoc] at h1
  have e : intOf (f i j) = m := by rw [h2]; rfl
  dsimp only
  rw [e, h1, h2]
  exact ⟨rfl, h3⟩

theorem len1 {α : Type} {l : List α} (h : l.length = 1) : ∃ a, l = [a] := by
  match l, h with
  | [a], _ => exact ⟨a, rfl⟩
theorem len2 {α : Type} {l : List α} (h : l.length = 2) : ∃ a0 a1, l = [a0, a1] := by
  match l, h with
  | a :: r, h =>
    obtain ⟨b0, rfl⟩ := len1 (l := r) (by simpa using h)
    exact ⟨a, b0, rfl⟩
theorem len3 {α : Type} {l : List α} (h : l.length = 3) : ∃ a0 a1 a2, l = [a0, a1, a2] := by
  match l, h with
  | a :: r, h =>
    obtain ⟨b0, b1, rfl⟩ := len2 (l := r) (by simpa using h)
    exact ⟨a, b0, b1, rfl⟩
theorem len4 {α : Type} {l : List α} (h : l.length = 4) : ∃ a0 a1 a2 a3, l = [a0, a1, a2, a3] := by
  match l, h with
  | a :: r, h =>
    obtain ⟨b0, b1, b2, rfl⟩ := len3 (l := r) (by simpa using h)
    exact ⟨a, b0, b1, b2, rfl⟩
theorem len5 {α : Type} {l : List α} (h : l.length = 5) : ∃ a0 a1 a2 a3 a4, l = [a0, a1, a2, a3, a4] := by
  match l, h with
  | a :: r, h =>
    obtain ⟨b0, b1, b2, b3, rfl⟩ := len4 (l := r) (by simpa using h)
    exact ⟨a, b0, b1, b2, b3, rfl⟩
theorem len6 {α : Type} {l : List α} (h : l.length = 6) : ∃ a0 a1 a2 a3 a4 a5, l = [a0, a1, a2, a3, a4, a5] := by
  match l, h with
  | a :: r, h =>
    obtain ⟨b0, b1, b2, b3, b4, rfl⟩ := len5 (l := r) (by simpa using h)
    exact ⟨a, b0, b1, b2, b3, b4, rfl⟩
theorem len7 {α : Type} {l : List α} (h : l.length = 7) : ∃ a0 a1 a2 a3 a4 a5 a6, l = [a0, a1, a2, a3, a4, a5, a6] := by
  match l, h with
  | a :: r, h =>
    obtain ⟨b0, b1, b2, b3, b4, b5, rfl⟩ := len6 (l := r) (by simpa using h)
    exact ⟨a, b0, b1, b2, b3, b4, b5, rfl⟩
theorem len8 {α : Type} {l : List α} (h : l.length = 8) : ∃ a0 a1 a2 a3 a4 a5 a6 a7, l = [a0, a1, a2, a3, a4, a5, a6, a7] := by
  match l, h with
  | a :: r, h =>
    obtain ⟨b0, b1, b2, b3, b4, b5, b6, rfl⟩ := len7 (l := r) (by simpa using h)
    exact ⟨a, b0, b1, b2, b3, b4, b5, b6, rfl⟩
theorem len9 {α : Type} {l : List α} (h : l.length = 9) : ∃ a0 a1 a2 a3 a4 a5 a6 a7 a8, l = [a0, a1, a2, a3, a4, a5, a6, a7, a8] := by
  match l, h with
  | a :: r, h =>
    obtain ⟨b0, b1, b2, b3, b4, b5, b6, b7, rfl⟩ := len8 (l := r) (by simpa using h)
    exact ⟨a, b0, b1, b2, b3, b4, b5, b6, b7, rfl⟩
theorem len10 {α : Type} {l : List α} (h : l.length = 10) : ∃ a0 a1 a2 a3 a4 a5 a6 a7 a8 a9, l = [a0, a1, a2, a3, a4, a5, a6, a7, a8, a9] := by
  match l, h with
  | a :: r, h =>
    obtain ⟨b0, b1, b2, b3, b4, b5, b6, b7, b8, rfl⟩ := len9 (l := r) (by simpa using h)
    exact ⟨a, b0, b1, b2, b3, b4, b5, b6, b7, b8, rfl⟩
theorem len11 {α : Type} {l : List α} (h : l.length = 11) : ∃ a0 a1 a2 a3 a4 a5 a6 a7 a8 a9 a10, l = [a0, a1, a2, a3, a4, a5, a6, a7, a8, a9, a10] := by
  match l, h with
  | a :: r, h =>
    obtain ⟨b0, b1, b2, b3, b4, b5, b6, b7, b8, b9, rfl⟩ := len10 (l := r) (by simpa using h)
    exact ⟨a, b0, b1, b2, b3, b4, b5, b6, b7, b8, b9, rfl⟩
theorem len12 {α : Type} {l : List α} (h : l.length = 12) : ∃ a0 a1 a2 a3 a4 a5 a6 a7 a8 a9 a10 a11, l = [a0, a1, a2, a3, a4, a5, a6, a7, a8, a9, a10, a11] := by
  match l, h with
  | a :: r, h =>
    obtain ⟨b0, b1, b2, b3, b4, b5, b6, b7, b8, b9, b10, rfl⟩ := len11 (l := r) (by simpa using h)
    exact ⟨a, b0, b1, b2, b3, b4, b5, b6, b7, b8, b9, b10, rfl⟩
theorem len13 {α : Type} {l : List α} (h : l.length = 13) : ∃ a0 a1 a2 a3 a4 a5 a6 a7 a8 a9 a10 a11 a12, l = [a0, a1, a2, a3, a4, a5, a6, a7, a8, a9, a10, a11, a12] := by
  match l, h with
  | a :: r, h =>
    obtain ⟨b0, b1, b2, b3, b4, b5, b6, b7, b8, b9, b10, b11, rfl⟩ := len12 (l := r) (by simpa using h)
    exact ⟨a, b0, b1, b2, b3, b4, b5, b6, b7, b8, b9, b10, b11, rfl⟩
theorem len14 {α : Type} {l : List α} (h : l.length = 14) : ∃ a0 a1 a2 a3 a4 a5 a6 a7 a8 a9 a10 a11 a12 a13, l = [a0, a1, a2, a3, a4, a5, a6, a7, a8, a9, a10, a11, a12, a13] := by
  match l, h with
  | a :: r, h =>
    obtain ⟨b0, b1, b2, b3, b4, b5, b6, b7, b8, b9, b10, b11, b12, rfl⟩ := len13 (l := r) (by simpa using h)
    exact ⟨a, b0, b1, b2, b3, b4, b5, b6, b7, b8, b9, b10, b11, b12, rfl⟩
theorem len15 {α : Type} {l : List α} (h : l.length = 15) : ∃ a0 a1 a2 a3 a4 a5 a6 a7 a8 a9 a10 a11 a12 a13 a14, l = [a0, a1, a2, a3, a4, a5, a6, a7, a8, a9, a10, a11, a12, a13, a14] := by
  match l, h with
  | a :: r, h =>
    obtain ⟨b0, b1, b2, b3, b4, b5, b6, b7, b8, b9, b10, b11, b12, b13, rfl⟩ := len14 (l := r) (by simpa using h)
    exact ⟨a, b0, b1, b2, b3, b4, b5, b6, b7, b8, b9, b10, b11, b12, b13, rfl⟩
theorem len16 {α : Type} {l : List α} (h : l.length = 16) : ∃ a0 a1 a2 a3 a4 a5 a6 a7 a8 a9 a10 a11 a12 a13 a14 a15, l = [a0, a1, a2, a3, a4, a5, a6, a7, a8, a9, a10, a11, a12, a13, a14, a15] := by
  match l, h with
  | a :: r, h =>
    obtain ⟨b0, b1, b2, b3, b4, b5, b6, b7, b8, b9, b10, b11, b12, b13, b14, rfl⟩ := len15 (l := r) (by simpa using h)
    exact ⟨a, b0, b1, b2, b3, b4, b5, b6, b7, b8, b9, b10, b11, b12, b13, b14, rfl⟩
theorem len17 {α : Type} {l : List α} (h : l.length = 17) : ∃ a0 a1 a2 a3 a4 a5 a6 a7 a8 a9 a10 a11 a12 a13 a14 a15 a16, l = [a0, a1, a2, a3, a4, a5, a6, a7, a8, a9, a10, a11, a12, a13, a14, a15, a16] := by
  match l, h with
  | a :: r, h =>
    obtain ⟨b0, b1, b2, b3, b4, b5, b6, b7, b8, b9, b10, b11, b12, b13, b14, b15, rfl⟩ := len16 (l := r) (by simpa using h)
    exact ⟨a, b0, b1, b2, b3, b4, b5, b6, b7, b8, b9, b10, b11, b12, b13, b14, b15, rfl⟩
theorem len18 {α : Type} {l : List α} (h : l.length = 18) : ∃ a0 a1 a2 a3 a4 a5 a6 a7 a8 a9 a10 a11 a12 a13 a14 a15 a16 a17, l = [a0, a1, a2, a3, a4, a5, a6, a7, a8, a9, a10, a11, a12, a13, a14, a15, a16, a17] := by
  match l, h with
  | a :: r, h =>
    obtain ⟨b0, b1, b2, b3, b4, b5, b6, b7, b8, b9, b10, b11, b12, b13, b14, b15, b16, rfl⟩ := len17 (l := r) (by simpa using h)
    exact ⟨a, b0, b1, b2, b3, b4, b5, b6, b7, b8, b9, b10, b11, b12, b13, b14, b15, b16, rfl⟩
theorem len19 {α : Type} {l : List α} (h : l.length = 19) : ∃ a0 a1 a2 a3 a4 a5 a6 a7 a8 a9 a10 a11 a12 a13 a14 a15 a16 a17 a18, l = [a0, a1, a2, a3, a4, a5, a6, a7, a8, a9, a10, a11, a12, a13, a14, a15, a16, a17, a18] := by
  match l, h with
  | a :: r, h =>
    obtain ⟨b0, b1, b2, b3, b4, b5, b6, b7, b8, b9, b10, b11, b12, b13, b14, b15, b16, b17, rfl⟩ := len18 (l := r) (by simpa using h)
    exact ⟨a, b0, b1, b2, b3, b4, b5, b6, b7, b8, b9, b10, b11, b12, b13, b14, b15, b16, b17, rfl⟩
theorem len20 {α : Type} {l : List α} (h : l.length = 20) : ∃ a0 a1 a2 a3 a4 a5 a6 a7 a8 a9 a10 a11 a12 a13 a14 a15 a16 a17 a18 a19, l = [a0, a1, a2, a3, a4, a5, a6, a7, a8, a9, a10, a11, a12, a13, a14, a15, a16, a17, a18, a19] := by
  match l, h with
  | a :: r, h =>
    obtain ⟨b0, b1, b2, b3, b4, b5, b6, b7, b8, b9, b10, b11, b12, b13, b14, b15, b16, b17, b18, rfl⟩ := len19 (l := r) (by simpa using h)
    exact ⟨a, b0, b1, b2, b3, b4, b5, b6, b7, b8, b9, b10, b11, b12, b13, b14, b15, b16, b17, b18, rfl⟩
theorem len21 {α : Type} {l : List α} (h : l.length = 21) : ∃ a0 a1 a2 a3 a4 a5 a6 a7 a8 a9 a10 a11 a12 a13 a14 a15 a16 a17 a18 a19 a20, l = [a0, a1, a2, a3, a4, a5, a6, a7, a8, a9, a10, a11, a12, a13, a14, a15, a16, a17, a18, a19, a20] := by
  match l, h with
  | a :: r, h =>
    obtain ⟨b0, b1, b2, b3, b4, b5, b6, b7, b8, b9, b10, b11, b12, b13, b14, b15, b16, b17, b18, b19, rfl⟩ := len20 (l := r) (by simpa using h)
    exact ⟨a, b0, b1, b2, b3, b4, b5, b6, b7, b8, b9, b10, b11, b12, b13, b14, b15, b16, b17, b18, b19, rfl⟩
theorem len22 {α : Type} {l : List α} (h : l.length = 22) : ∃ a0 a1 a2 a3 a4 a5 a6 a7 a8 a9 a10 a11 a12 a13 a14 a15 a16 a17 a18 a19 a20 a21, l = [a0, a1, a2, a3, a4, a5, a6, a7, a8, a9, a10, a11, a12, a13, a14, a15, a16, a17, a18, a19, a20, a21] := by
  match l, h with
  | a :: r, h =>
    obtain ⟨b0, b1, b2, b3, b4, b5, b6, b7, b8, b9, b10, b11, b12, b13, b14, b15, b16, b17, b18, b19, b20, rfl⟩ := len21 (l := r) (by simpa using h)
    exact ⟨a, b0, b1, b2, b3, b4, b5, b6, b7, b8, b9, b10, b11, b12, b13, b14, b15, b16, b17, b18, b19, b20, rfl⟩
theorem len23 {α : Type} {l : List α} (h : l.length = 23) : ∃ a0 a1 a2 a3 a4 a5 a6 a7 a8 a9 a10 a11 a12 a13 a14 a15 a16 a17 a18 a19 a20 a21 a22, l = [a0, a1, a2, a3, a4, a5, a6, a7, a8, a9, a10, a11, a12, a13, a14, a15, a16, a17, a18, a19, a20, a21, a22] := by
  match l, h with
  | a :: r, h =>
    obtain ⟨b0, b1, b2, b3, b4, b5, b6, b7, b8, b9, b10, b11, b12, b13, b14, b15, b16, b17, b18, b19, b20, b21, rfl⟩ := len22 (l := r) (by simpa using h)
    exact ⟨a, b0, b1, b2, b3, b4, b5, b6, b7, b8, b9, b10, b11, b12, b13, b14, b15, b16, b17, b18, b19, b20, b21, rfl⟩
theorem len24 {α : Type} {l : List α} (h : l.length = 24) : ∃ a0 a1 a2 a3 a4 a5 a6 a7 a8 a9 a10 a11 a12 a13 a14 a15 a16 a17 a18 a19 a20 a21 a22 a23, l = [a0, a1, a2, a3, a4, a5, a6, a7, a8, a9, a10, a11, a12, a13, a14, a15, a16, a17, a18, a19, a20, a21, a22, a23] := by
  match l, h with
  | a :: r, h =>
    obtain ⟨b0, b1, b2, b3, b4, b5, b6, b7, b8, b9, b10, b11, b12, b13, b14, b15, b16, b17, b18, b19, b20, b21, b22, rfl⟩ := len23 (l := r) (by simpa using h)
    exact ⟨a, b0, b1, b2, b3, b4, b5, b6, b7, b8, b9, b10, b11, b12, b13, b14, b15, b16, b17, b18, b19, b20, b21, b22, rfl⟩
end Go.Proofs.Ytbkaopeajjechaa
