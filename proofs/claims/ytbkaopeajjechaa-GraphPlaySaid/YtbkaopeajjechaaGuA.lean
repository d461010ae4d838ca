/- Maps whose keys are pointers: nil looked up. No program in sight. Maps whose keys are pointers, gone over in whatever order. No program in sight. As Rs, within a round of a range over a function. No program in sight. As Rs, where some old blocks may change (a row that is appended to). No program in sight. The second loop of a graph's Copy, plainly: which of the new objects have their pointer fields. No walk in sight. The copy of a graph, plainly: where it lies, and that it is one. No walk in sight. -/
import Derived.Test.YtbkaopeajjechaaPm
import Derived.Maps.RangeRun
import Derived.Test.YtbkaopeajjechaaRi
import Derived.Test.YtbkaopeajjechaaRs
import Derived.Test.YtbkaopeajjechaaCh
import Derived.Laws.AppendOwn
import Derived.Test.YtbkaopeajjechaaGsA
namespace Go.Proofs.Ytbkaopeajjechaa
set_option linter.unusedVariables false
set_option linter.unusedSimpArgs false
open Go.RowKit

section
variable {P : Program} {w : World} {tp te : TypeId} {j : TypeInfo}

theorem run_equal_nilp (hp : P.underlying tp = some (.pointer te)) {b : Nat} : (Op.equal tp (.pointer none) (pt b)).run P w = .ok false w := by
  have h : ∀ d : Nat, (Op.equalIn (d + 1) tp (.pointer none) (pt b)).run P w = .ok false w := fun d => by
    simp [Op.equalIn, run_underlying hp]
  simp [Op.equal, Op.maxDepth, h 9999]

theorem run_findAsking_nilp (hp : P.underlying tp = some (.pointer te)) : ∀ (L : List (Nat × Value)) (i : Nat), (Instr.findAsking tp (.pointer none) (entriesFrom L i) i).run P w = .ok none w
  | [], i => rfl
  | x :: r, i => by
    have he := run_equal_nilp (w := w) hp (b := x.1)
    have hr := run_findAsking_nilp hp r (i + 1)
    unfold entriesFrom Instr.findAsking entryAt
    simp only [Sem.run_bind, he, Result.andThen_ok]
    simp [hr]

theorem run_findKey_nilp (hp : P.underlying tp = some (.pointer te)) (L : List (Nat × Value)) : (Instr.findKey tp (.pointer none) (entriesFrom L 0)).run P w = .ok none w := by
  unfold Instr.findKey
  simp only [Sem.run_bind, run_underlying hp, Result.andThen_ok]
  cases L with
  | nil => rfl
  | cons x r =>
    have h : Instr.findNow (.pointer te) (.pointer none) (entriesFrom (x :: r) 0) 0 = none := by
      unfold entriesFrom Instr.findNow entryAt
      rfl
    rw [h]
    exact run_findAsking_nilp hp (x :: r) 0

theorem run_checkKey_nilp (hp : P.underlying tp = some (.pointer te)) (em : Bool) : (Instr.checkKey em 10000 tp (.pointer none)).run P w = .ok () w := by
  have h : ∀ n : Nat, (Instr.checkKey em (n + 1) tp (.pointer none)).run P w = .ok () w := fun n => by simp [Instr.checkKey, run_underlying hp]
  exact h 9999

theorem run_lookup_nilp {tm tv : TypeId} {b : Nat} {L : List (Nat × Value)} {z : Value} (hm : P.underlying tm = some (.map tp tv)) (hp : P.underlying tp = some (.pointer te)) (h : PMap w b L) (hz : (zeroValue tv).run P w = .ok z w) :
    (Instr.lookup tm (.map (some b)) (.pointer none) false).run P w = .ok z w := by
  have h1 := run_findKey_nilp (w := w) hp L
  have h2 := fun em => run_checkKey_nilp (w := w) hp em
  simp [Instr.lookup, run_underlying hm, MapKept.run_getObj_map h.1, h2, h1, hz]
end
end Go.Proofs.Ytbkaopeajjechaa

namespace Go.Proofs.Ytbkaopeajjechaa
open Go.RowKit
open Go.ChangeMaps (setBlock)

theorem entries_mem {e : MapEntry} : ∀ (K : List (Nat × Value)) (i0 : Nat), e ∈ entriesFrom K i0 → ∃ (i : Nat) (h : i < K.length), e = entryAt (i0 + i) K[i]
  | [], _, h => by cases h
  | x :: r, i0, h => by
    rcases List.mem_cons.1 (show e ∈ entryAt i0 x :: entriesFrom r (i0 + 1) from h) with h | h
    · exact ⟨0, by simp, h⟩
    · obtain ⟨i, hi, he⟩ := entries_mem r (i0 + 1) h
      exact ⟨i + 1, by simp; omega, by rw [he]; show entryAt (i0 + 1 + i) _ = entryAt (i0 + (i + 1)) _; rw [show i0 + 1 + i = i0 + (i + 1) by omega]; rfl⟩

theorem entries_at : ∀ (K : List (Nat × Value)) (i0 i : Nat) (h : i < K.length), entryAt (i0 + i) K[i] ∈ entriesFrom K i0
  | x :: r, i0, 0, _ => List.mem_cons_self
  | x :: r, i0, i + 1, h => by
    have := entries_at r (i0 + 1) i (by simp at h; omega)
    rw [show i0 + 1 + i = i0 + (i + 1) by omega] at this
    exact List.mem_cons_of_mem _ this

theorem entries_born : ∀ (K : List (Nat × Value)) (i0 : Nat), (entriesFrom K i0).map (·.born) = List.range' i0 K.length
  | [], _ => rfl
  | x :: r, i0 => by
    have := entries_born r (i0 + 1)
    show i0 :: (entriesFrom r (i0 + 1)).map (·.born) = _
    rw [this]
    rfl

/-- A loop over such a map under way: which entries came already. -/
structure PIter (W : World) (r pm : Nat) (K : List (Nat × Value)) (seen : List Nat) : Prop where
  it : W.heap[r]? = some (.mapIter (some pm) K.length seen.toArray K.length)
  nd : seen.Nodup
  lt : ∀ i ∈ seen, i < K.length

/-- How many are still to come. -/
def iterLeft (W : World) (r : Nat) : Nat := match W.heap[r]? with
  | some (.mapIter _ s seen _) => s - seen.size
  | _ => 0

variable {P : Program} {W : World} {r pm : Nat} {K : List (Nat × Value)} {seen : List Nat}

theorem PIter.left (h : PIter W r pm K seen) : iterLeft W r = K.length - seen.length := by
  unfold iterLeft
  rw [h.it]
  rfl

theorem nodup_lt : ∀ (n : Nat) (M : List Nat), M.Nodup → (∀ x ∈ M, x < n) → M.length ≤ n
  | 0, M, _, h => by
    cases M with
    | nil => simp
    | cons x r => have := h x List.mem_cons_self; omega
  | n + 1, M, hn, h => by
    by_cases hm : n ∈ M
    · have h1 := nodup_lt n (M.erase n) (hn.erase n) (fun x hx => by
        have h2 := h x (List.mem_of_mem_erase hx)
        have h3 : x ≠ n := (fun e => by rw [e] at hx; exact (List.Nodup.not_mem_erase hn) hx)
        omega)
      rw [List.length_erase_of_mem hm] at h1
      omega
    · have := nodup_lt n M hn (fun x hx => by
        have h2 := h x hx
        have h3 : x ≠ n := fun e => hm (e ▸ hx)
        omega)
      omega

theorem PIter.len (h : PIter W r pm K seen) : seen.length ≤ K.length := nodup_lt _ _ h.nd h.lt

theorem PIter.chg {Z : Nat → Prop} {V : World} (h : PIter W r pm K seen) (hb : ∀ i, i < W.heap.size → ¬ Z i → V.heap[i]? = W.heap[i]?) (hr : ¬ Z r) : PIter V r pm K seen :=
  ⟨(hb r (Array.getElem?_eq_some_iff.1 h.it).1 hr).trans h.it, h.nd, h.lt⟩

theorem run_range_pt {t k e : TypeId} (ht : P.underlying t = some (.map k e)) (hp : PMap W pm K) : (Instr.range t (.map (some pm))).run P W = .ok (.pointer (some ⟨W.heap.size, 0, none⟩)) (W.alloc (.mapIter (some pm) K.length #[] K.length)) := run_range_map W t k e pm _ _ ht hp.1

theorem PIter.start : PIter (W.alloc (.mapIter (some pm) K.length #[] K.length)) W.heap.size pm K [] := ⟨(MapKept.heap_alloc W _).1, List.nodup_nil, fun i h => by cases h⟩

theorem run_next_pt (ty : TypeId) (hp : PMap W pm K) (h : PIter W r pm K seen) :
    ((∀ i, i < K.length → i ∈ seen) ∧ (Instr.next (.pointer (some ⟨r, 0, none⟩)) false ty).run P W = .ok (.tuple #[.bool false]) W) ∨
    ∃ (i : Nat) (hi : i < K.length) (V : World), i ∉ seen ∧ (Instr.next (.pointer (some ⟨r, 0, none⟩)) false ty).run P W = .ok (.tuple #[.bool true, pt K[i].1, K[i].2]) V ∧ PIter V r pm K (seen ++ [i]) ∧ W.grownBy V (some r) := by
  have hold : ∀ x ∈ (entriesFrom K 0).toArray.toList, x.born < K.length := fun x hx => by
    obtain ⟨i, hi, rfl⟩ := entries_mem K 0 (by simpa using hx)
    show 0 + i < _
    omega
  rcases run_next_at (P := P) W ty r pm K.length K.length seen.toArray _ _ h.it hp.1 hold (Nat.le_refl _) with ⟨h1, h2⟩ | ⟨e, he, w1, hw, hrun⟩
  · refine .inl ⟨fun i hi => Classical.byContradiction fun hn => ?_, h2⟩
    have hm : entryAt i K[i] ∈ (leftOf (entriesFrom K 0).toArray seen.toArray).toList := by
      have := entries_at K 0 i hi
      rw [Nat.zero_add] at this
      simp only [leftOf, Array.toList_filter, List.mem_filter]
      exact ⟨this, by simpa [entryAt] using hn⟩
    have : (leftOf (entriesFrom K 0).toArray seen.toArray).toList.length = 0 := by simpa using h1
    rw [List.eq_nil_of_length_eq_zero this] at hm
    cases hm
  · simp only [leftOf, Array.toList_filter, List.mem_filter] at he
    obtain ⟨i, hi, rfl⟩ := entries_mem K 0 he.1
    rw [Nat.zero_add] at he hrun
    have hns : i ∉ seen := by simpa [entryAt] using he.2
    have hr : r < W.heap.size := (Array.getElem?_eq_some_iff.1 h.it).1
    have hw1 : w1.heap = W.heap ∧ w1.os = W.os ∧ w1.tape = W.tape ∧ w1.output = W.output := by rcases hw with rfl | rfl <;> exact ⟨rfl, rfl, rfl, rfl⟩
    refine .inr ⟨i, hi, _, hns, hrun, ⟨?_, ?_, ?_⟩, ?_⟩
    · show ((w1.heap.setIfInBounds r _))[r]? = _
      rw [hw1.1, Array.getElem?_setIfInBounds_self_of_lt hr]
      simp [entryAt]
    · rw [List.nodup_append]
      exact ⟨h.nd, by simp, fun a ha b hb => by
        obtain rfl : b = i := by simpa using hb
        exact fun e => hns (e ▸ ha)⟩
    · intro j hj
      rcases List.mem_append.1 hj with hj | hj
      · exact h.lt j hj
      · obtain rfl : j = i := by simpa using hj
        exact hi
    · refine ⟨hw1.2.1, hw1.2.2.1, hw1.2.2.2, by simp [setBlock, hw1.1], fun j hj hne => ?_⟩
      have hrj : r ≠ j := fun e => hne (by rw [e])
      show ((w1.heap.setIfInBounds r _))[j]? = _
      rw [hw1.1, Array.getElem?_setIfInBounds_ne hrj]

theorem run_entry_pt {i : Nat} (hi : i < K.length) (hp : PMap W pm K) (h : PIter W r pm K (seen ++ [i])) : (Instr.entry (.pointer (some ⟨r, 0, none⟩))).run P W = .ok (.tuple #[pt K[i].1, K[i].2]) W := by
  have hit := h.it
  have hm := entries_at K 0 i hi
  rw [Nat.zero_add] at hm
  refine run_entry_at (P := P) W r pm K.length seen.toArray (entriesFrom K 0).toArray K.length (entryAt i K[i]) ?_ hp.1 (by simpa using hm) ?_
  · rw [hit]
    simp [entryAt]
  · show ((entriesFrom K 0).map (·.born)).Nodup
    rw [entries_born]
    exact List.nodup_range'
end Go.Proofs.Ytbkaopeajjechaa

namespace Go.Proofs.Ytbkaopeajjechaa
open Go.RowKit

section
variable {P : Program} {L : List Oper} {Q : Exit → Act → World → Prop} {C : World → Prop} {l n : Nat}

theorem wpIn_region_side (κ : List Nat) (k : Nat) {id : Nat} {a : Act} {w : World} (hm : P.follows .mixedOrders = true) (hB : sideB L κ k = true) (hd : noDefer L = true) (hQ : ¬ LetsOut Q) (hC : C w.drew)
    (h : wpQuiet P (diesOps L (kblk κ)).toArray C (fun a' => sideWp P C a' (fun ps U => wpList P L.toArray Q (L.drop k) (applyP ps a') U) ((sideIdx κ k).filterMap fun i => L[i]?) [] w.drew) (diesOps L (kblk κ)) a) : (Code.region id L.toArray true).wpIn (Fence.wide.inRound l) n P Q a w := by
  have hD := Side.of hB
  refine wpIn_any hm hd hQ ?_
  have hlx := hD.lex
  simp only [Region.lexB, Bool.and_eq_true] at hlx
  obtain ⟨af, h1, h2⟩ := quiet_end _ _ h
  have hl := wpAnyQ_lex (C := C) (md := .any) hlx.1 (diesOps L (kblk κ)) 0 (Array.replicate (diesOps L (kblk κ)).length false) a (by simp) (by simpa using hlx.2) h2
  have := side_any (Q := Q) hD _ (Array.replicate (diesOps L (kblk κ)).length false) a [] [] (sideIdx κ k) w.drew hC (by simp [sideOps_len hD]) ?_ ?_ rfl (fun i hi => by cases hi) ?_ (fun p hp => by cases hp) h1 hl
  · rw [sideOps_len hD] at this
    rw [show applyP [] a = a from rfl] at this
    simpa using this
  · intro s o ho hl e he hb
    rw [Array.getElem?_replicate] at hl
    split at hl <;> simp at hl
  · intro i hi hil
    simp [sideOps_len hD, hil]
  · intro i hi
    unfold sideIdx at hi
    simp only [List.mem_filter, List.mem_range] at hi
    have := hD.forced.lt
    have h2 : i < L.length := by omega
    simp [sideOps_len hD, h2]

/-- .. at the later worlds of w0. -/
theorem wpIn_region_side_later (κ : List Nat) (k : Nat) (w0 : World) {id : Nat} {a : Act} {w : World} (hm : P.follows .mixedOrders = true) (hB : sideB L κ k = true) (hd : noDefer L = true) (hQ : ¬ LetsOut Q) (hC : Below w0.heap.size w0 w.drew)
    (h : wpQuiet P (diesOps L (kblk κ)).toArray (fun U => ∃ s : Later w0, U = s.val) (fun a' => sideWp P (fun U => Below w0.heap.size w0 U) a' (fun ps U => wpList P L.toArray Q (L.drop k) (applyP ps a') U) ((sideIdx κ k).filterMap fun i => L[i]?) [] w.drew) (diesOps L (kblk κ)) a) : (Code.region id L.toArray true).wpIn (Fence.wide.inRound l) n P Q a w := by
  refine wpIn_region_side (C := fun U => ∃ s : Later w0, U = s.val) κ k hm hB hd hQ (Later.iff.2 hC) ?_
  have e : (fun U => ∃ s : Later w0, U = s.val) = (fun U => Below w0.heap.size w0 U) := funext fun U => propext Later.iff
  rw [e] at h ⊢
  exact h
end
end Go.Proofs.Ytbkaopeajjechaa

namespace Go.Proofs.Ytbkaopeajjechaa
open Go.RowKit

/-- The worlds that differ from w in new blocks and in blocks of Z alone. -/
structure Chd (Z : Nat → Prop) (w : World) where
  val : World
  ok : Chg Z w val

instance (Z : Nat → Prop) (w : World) : Nonempty (Chd Z w) := ⟨⟨w, Chg.refl _ _⟩⟩

theorem Chd.iff {Z : Nat → Prop} {w U : World} : (∃ s : Chd Z w, U = s.val) ↔ Chg Z w U := ⟨fun ⟨s, hs⟩ => hs ▸ s.ok, fun h => ⟨⟨U, h⟩, rfl⟩⟩

theorem Chd.cell {Z : Nat → Prop} {w : World} {b o : Nat} {v : Value} (hp : b < w.heap.size) (hz : ¬ Z b) (h : w.cell? ⟨b, o, none⟩ = some v) (s : Chd Z w) : s.val.cell? ⟨b, o, none⟩ = some v := (s.ok.cell hp hz).trans h

theorem wp_region_side_chd (κ : List Nat) (k : Nat) {P : Program} (Z : Nat → Prop) (w0 : World) {id : Nat} {Q : Exit → Act → World → Prop} {a : Act} {w : World} {L : List Oper} (hm : P.follows .mixedOrders = true) (hB : sideB L κ k = true) (hC : Chg Z w0 w.drew)
    (h : wpQuiet P (diesOps L (kblk κ)).toArray (fun U => ∃ s : Chd Z w0, U = s.val) (fun a' => sideWp P (fun U => Chg Z w0 U) a' (fun ps U => wpList P L.toArray Q (L.drop k) (applyP ps a') U) ((sideIdx κ k).filterMap fun i => L[i]?) [] w.drew) (diesOps L (kblk κ)) a) : (Code.region id L.toArray true).wp P Q a w := by
  refine wp_region_side (C := fun U => ∃ s : Chd Z w0, U = s.val) κ k hm hB (Chd.iff.2 hC) ?_
  have e : (fun U => ∃ s : Chd Z w0, U = s.val) = (fun U => Chg Z w0 U) := funext fun U => propext Chd.iff
  rw [e] at h ⊢
  exact h
/-- An append to a row that one owns, as an operation of the chain. -/
theorem wpV_append {P : Program} {w : World} {o : Oper} {a : Act} {K : Value → World → Prop} (s x : Operand) (t : TypeId)
    (ho : o.op = .call { callee := .builtin .append, args := #[s, x], argTypes := #[t, t] })
    (base : Nat) (e : TypeId) (i : TypeInfo) (z : Value) (size bytes : Nat) (ht : P.underlying t = some (.slice e)) (hi : P.info? e = some i) (hz : i.zero = some z)
    (hsize : i.size = size) (hby : i.bytes = bytes) (hzs : z.cells.size = size) (hsz : 0 < size)
    (v : Value) (n : Nat) (xs : List Value) (hs : a.eval s = v) (hown : w.ownsRow base e size v n xs)
    (ad : Addr) (m c : Nat) (news : List Value) (hx : a.eval x = .slice (some ad) m c) (hl : news.length = m * size) (hnews : ∀ j u, news[j]? = some u → w.cell? (ad.add j) = some u) (h1 : ∀ u ∈ news, u.oneCell' = true)
    (h63 : n + m ≤ maxLen) (hbytes : (n + m) * bytes ≤ 140737488355328) (hbase : base ≤ w.heap.size)
    (h : ∀ v' w', w'.ownsRow base e size v' (n + m) (xs ++ news) → w.grownBy w' v.ownBlock → K v' w') : Oper.wpV P o a w K := by
  obtain ⟨v', w', hr, h2, h3, h4⟩ := run_append_own (P := P) (w := w) base t o.type e i z size bytes ht hi hz hsize hby hzs hsz v n xs hown ad m c news hl hnews h1 h63 hbytes hbase
  unfold Oper.wpV execOp
  simp only [ho, resolve, invoke, builtin, Sem.run_bind, Sem.run_pure, Result.andThen_ok, List.map_toArray, List.map_cons, List.map_nil, hs, hx, hr]
  exact h v' w' h2 h3
end Go.Proofs.Ytbkaopeajjechaa

namespace Go.Proofs.Ytbkaopeajjechaa
open Go.RowKit Go.Maps

/-- The new object for an old one, as a pointer. -/
def twp (a : Nat → Nat) (R : List Nat) (x : Nat) : Value := if x = 0 then .pointer none else pt (a (R.idxOf x))

structure TwB (S : Nat → ByteArray) (G : Gr) (L : Lay) (R : List Nat) (base b2 pm : Nat) (W : World) (seen : List Nat) (a ib : Nat → Nat) (iA : Nat → Option Addr) (ic hb : Nat → Nat) (hA : Nat → Option Addr) (hc : Nat → Nat) : Prop where
  map : PMap W pm ((List.range R.length).map fun i => (L.adr (R.getD i 0), pt (a i)))
  obj : ∀ i, i < R.length → W.heap[a i]? = some (Obj.cells #[.int .i64 (G.sh (R.getD i 0)), if i ∈ seen then .slice (hA i) (S (G.sh (R.getD i 0))).size (hc i) else .slice none 0 0, .slice (iA i) (S (G.sh (R.getD i 0))).size (ic i)] 91 (0, 0)) ∧ base ≤ a i ∧ a i < b2
  ints : ∀ i, i < R.length → 0 < (S (G.sh (R.getD i 0))).size → iA i = some ⟨ib i, 0, none⟩ ∧ base ≤ ib i ∧ ib i < a i ∧ (∃ c, W.heap[ib i]? = some (Obj.cells c 2 (0, 0))) ∧ ∀ f, f < (S (G.sh (R.getD i 0))).size → W.cell? ⟨ib i, f, none⟩ = some (.int .i64 (G.ints S (R.getD i 0) f))
  ord : ∀ i j, i < j → j < R.length → a i < a j ∧ (0 < (S (G.sh (R.getD j 0))).size → a i < ib j)
  held : ∀ i, i < R.length → i ∈ seen → 0 < (S (G.sh (R.getD i 0))).size → hA i = some ⟨hb i, 0, none⟩ ∧ b2 ≤ hb i ∧ (∃ c, W.heap[hb i]? = some (Obj.cells c 71 (0, 0))) ∧ ∀ f, f < (S (G.sh (R.getD i 0))).size → W.cell? ⟨hb i, f, none⟩ = some (twp a R (G.held S (R.getD i 0) f))
  dis : ∀ i j, i < R.length → j < R.length → i ∈ seen → j ∈ seen → i ≠ j → 0 < (S (G.sh (R.getD i 0))).size → 0 < (S (G.sh (R.getD j 0))).size → hb i ≠ hb j

section
variable {S : Nat → ByteArray} {G : Gr} {L : Lay} {R : List Nat} {base b2 pm : Nat} {W V : World} {seen : List Nat} {a ib ic hb hc : Nat → Nat} {iA hA : Nat → Option Addr}

theorem TwB.keep (h : TwB S G L R base b2 pm W seen a ib iA ic hb hA hc) (hk : ∀ b o, W.heap[b]? = some o → (b = pm ∨ o.isCells = true) → V.heap[b]? = W.heap[b]?) : TwB S G L R base b2 pm V seen a ib iA ic hb hA hc := by
  refine ⟨⟨(hk pm _ h.map.1 (.inl rfl)).trans h.map.1, fun x hx => ?_⟩, fun i hi => ⟨(hk _ _ (h.obj i hi).1 (.inr rfl)).trans (h.obj i hi).1, (h.obj i hi).2⟩, fun i hi hs => ?_, h.ord, fun i hi hm hs => ?_, h.dis⟩
  · obtain ⟨c, t, e⟩ := h.map.2 x hx
    exact ⟨c, t, (hk _ _ e (.inr rfl)).trans e⟩
  · obtain ⟨h1, h2, h3, ⟨c, hc⟩, h4⟩ := h.ints i hi hs
    have hb := hk _ _ hc (.inr rfl)
    exact ⟨h1, h2, h3, ⟨c, hb.trans hc⟩, fun f hf => (World.cell?_of_block (a := ⟨ib i, f, none⟩) hb).trans (h4 f hf)⟩
  · obtain ⟨h1, h2, ⟨c, hc⟩, h4⟩ := h.held i hi hm hs
    have hb' := hk _ _ hc (.inr rfl)
    exact ⟨h1, h2, ⟨c, hb'.trans hc⟩, fun f hf => (World.cell?_of_block (a := ⟨hb i, f, none⟩) hb').trans (h4 f hf)⟩

theorem TwB.ne (h : TwB S G L R base b2 pm W seen a ib iA ic hb hA hc) {i j : Nat} (hi : i < R.length) (hj : j < R.length) (hij : i ≠ j) : a i ≠ a j ∧ (0 < (S (G.sh (R.getD j 0))).size → a i ≠ ib j) := by
  rcases Nat.lt_or_ge i j with e | e
  · have := h.ord i j e hj
    exact ⟨by omega, fun hs => by have := this.2 hs; omega⟩
  · have := h.ord j i (by omega) hi
    exact ⟨by omega, fun hs => by have := (h.ints j hj hs).2.2.1; omega⟩

/-- One object has its pointer fields. -/
theorem TwB.more (h : TwB S G L R base b2 pm W seen a ib iA ic hb hA hc) {i : Nat} (hi : i < R.length) (hn : i ∉ seen) (hb2 : b2 ≤ W.heap.size) (hpm : pm ≠ a i) (hK : ∀ x ∈ R, L.adr x ≠ a i)
    (hg : ∀ b, b < W.heap.size → b ≠ a i → V.heap[b]? = W.heap[b]?) {vA : Option Addr} {vb vc : Nat}
    (ho : V.heap[a i]? = some (Obj.cells #[.int .i64 (G.sh (R.getD i 0)), .slice vA (S (G.sh (R.getD i 0))).size vc, .slice (iA i) (S (G.sh (R.getD i 0))).size (ic i)] 91 (0, 0)))
    (hv : 0 < (S (G.sh (R.getD i 0))).size → vA = some ⟨vb, 0, none⟩ ∧ W.heap.size ≤ vb ∧ (∃ c, V.heap[vb]? = some (Obj.cells c 71 (0, 0))) ∧ ∀ f, f < (S (G.sh (R.getD i 0))).size → V.cell? ⟨vb, f, none⟩ = some (twp a R (G.held S (R.getD i 0) f))) :
    TwB S G L R base b2 pm V (seen ++ [i]) a ib iA ic (fun j => if j = i then vb else hb j) (fun j => if j = i then vA else hA j) (fun j => if j = i then vc else hc j) := by
  have hl : ∀ {b o}, W.heap[b]? = some o → b < W.heap.size := fun h => (Array.getElem?_eq_some_iff.1 h).1
  have hblt : ∀ j, j < R.length → j ∈ seen → 0 < (S (G.sh (R.getD j 0))).size → hb j < W.heap.size := fun j hj hm hs => by
    obtain ⟨_, _, ⟨c, hc⟩, _⟩ := h.held j hj hm hs
    exact hl hc
  refine ⟨⟨(hg pm (hl h.map.1) hpm).trans h.map.1, fun x hx => ?_⟩, fun j hj => ?_, fun j hj hs => ?_, h.ord, fun j hj hm hs => ?_, fun j k hj' hk' hj hk hjk hs1 hs2 => ?_⟩
  · obtain ⟨c, t, e⟩ := h.map.2 x hx
    refine ⟨c, t, (hg _ (hl e) ?_).trans e⟩
    obtain ⟨q, hq, rfl⟩ := List.mem_map.1 hx
    have hq := List.mem_range.1 hq
    exact hK _ (by rw [getD_at hq]; exact List.getElem_mem hq)
  · by_cases e : j = i
    · subst e
      rw [if_pos (List.mem_append.2 (.inr (by simp)))]
      simp only [if_pos]
      exact ⟨ho, (h.obj j hj).2⟩
    · simp only [if_neg e]
      have hm : (j ∈ seen ++ [i]) ↔ j ∈ seen := by simp [e]
      simp only [hm]
      exact ⟨(hg _ (hl (h.obj j hj).1) (h.ne hj hi e).1).trans (h.obj j hj).1, (h.obj j hj).2⟩
  · obtain ⟨h1, h2, h3, ⟨c, hc⟩, h4⟩ := h.ints j hj hs
    have hne : ib j ≠ a i := by
      by_cases e : j = i
      · subst e; omega
      · exact fun e2 => (h.ne hi hj (fun k => e k.symm)).2 hs e2.symm
    have hb' := hg _ (hl hc) hne
    exact ⟨h1, h2, h3, ⟨c, hb'.trans hc⟩, fun f hf => (World.cell?_of_block (a := ⟨ib j, f, none⟩) hb').trans (h4 f hf)⟩
  · by_cases e : j = i
    · subst e
      simp only [if_pos]
      obtain ⟨h1, h2, h3⟩ := hv hs
      exact ⟨h1, by omega, h3⟩
    · simp only [if_neg e]
      have hm' : j ∈ seen := by
        rcases List.mem_append.1 hm with hm | hm
        · exact hm
        · exact absurd (by simpa using hm) e
      obtain ⟨h1, h2, ⟨c, hc⟩, h4⟩ := h.held j hj hm' hs
      have hb' := hg _ (hl hc) (by have := (h.obj i hi).2.2; omega)
      exact ⟨h1, h2, ⟨c, hb'.trans hc⟩, fun f hf => (World.cell?_of_block (a := ⟨hb j, f, none⟩) hb').trans (h4 f hf)⟩
  · have hv1 := fun hs => (hv hs).2.1
    have old : ∀ j, j ∈ seen ++ [i] → j ≠ i → j ∈ seen := fun j hm e => by
      rcases List.mem_append.1 hm with hm | hm
      · exact hm
      · exact absurd (by simpa using hm) e
    by_cases e : j = i
    · subst e
      have e2 : k ≠ j := fun e => hjk e.symm
      simp only [if_pos, if_neg e2]
      have := hblt k hk' (old k hk e2) hs2
      have := hv1 hs1
      omega
    · by_cases e2 : k = i
      · subst e2
        simp only [if_pos, if_neg e]
        have := hblt j hj' (old j hj e) hs1
        have := hv1 hs2
        omega
      · simp only [if_neg e, if_neg e2]
        exact h.dis j k hj' hk' (old j hj e) (old k hk e2) hjk hs1 hs2
end
end Go.Proofs.Ytbkaopeajjechaa

namespace Go.Proofs.Ytbkaopeajjechaa
open Go.RowKit Go.Maps

section
variable {T : Nat} {sp : Int} {len : Nat} {S : Nat → ByteArray} {w W V : World} {G : Gr} {L : Lay} {md : Int}
variable {R : List Nat} {base b2 pm : Nat} {seen : List Nat} {a ib ic hb hc : Nat → Nat} {iA hA : Nat → Option Addr}

open Classical in
/-- Where the copy lies. -/
noncomputable def twinLay (L : Lay) (S : Nat → ByteArray) (G : Gr) (g rb rcap : Nat) (R : List Nat) (a ib : Nat → Nat) (iA : Nat → Option Addr) (ic hb : Nat → Nat) (hA : Nat → Option Addr) (hc : Nat → Nat) : Lay where
  g := g
  rb := rb
  rcap := rcap
  shA := L.shA
  shcap := L.shcap
  adr := fun x => a (R.idxOf x)
  hb := fun x => hb (R.idxOf x)
  hA := fun x => hA (R.idxOf x)
  hc := fun x => hc (R.idxOf x)
  ib := fun x => ib (R.idxOf x)
  iA := fun x => iA (R.idxOf x)
  ic := fun x => ic (R.idxOf x)
  dom := fun x => x ∈ R
  tag := fun b => if b = g then .gr else if b = rb then .ro
    else if h : ∃ x, x ∈ R ∧ a (R.idxOf x) = b then .ob (Classical.choose h)
    else if h : ∃ x, x ∈ R ∧ 0 < (S (G.sh x)).size ∧ hb (R.idxOf x) = b then .he (Classical.choose h)
    else if h : ∃ x, x ∈ R ∧ 0 < (S (G.sh x)).size ∧ ib (R.idxOf x) = b then .it (Classical.choose h) else .no

theorem idx_getD {x : Nat} (h : x ∈ R) : R.idxOf x < R.length ∧ R.getD (R.idxOf x) 0 = x := by
  have hl := List.idxOf_lt_length_of_mem h
  exact ⟨hl, by rw [getD_at hl, List.getElem_idxOf]⟩

theorem idx_inj {x y : Nat} (hx : x ∈ R) (hy : y ∈ R) (e : R.idxOf x = R.idxOf y) : x = y := by
  rw [← (idx_getD hx).2, ← (idx_getD hy).2, e]

theorem TwB.isG (hT : TwB S G L R base b2 pm W seen a ib iA ic hb hA hc) (hall : ∀ i, i < R.length → i ∈ seen) (hI : IsG T sp len S W L G md) (hR : G.reach T S = R)
    {g rb rcap : Nat} (hlt : b2 ≤ g) (hlt2 : ∀ i, i < R.length → 0 < (S (G.sh (R.getD i 0))).size → hb i < g) (hrb : g < rb) (hrl : rb < W.heap.size)
    (hg : W.heap[g]? = some (Obj.cells #[.int .i64 T, .int .i64 sp, .slice L.shA len L.shcap, .slice (some ⟨rb, 0, none⟩) T rcap, .int .i64 md] 64 (0, 0)))
    (hro : ∀ t q, t < T → q < 6 → W.cell? ⟨rb, t * 6 + q, none⟩ = some (twp a R (G.root t q)) ∧ W.frozen? ⟨rb, t * 6 + q, none⟩ = false)
    (hb0 : base ≤ g) (hb1 : base ≤ b2) (hsn : ∀ b, L.shA = some b → b.block < base) :
    ∃ L2, L2.g = g ∧ IsG T sp len S W L2 G md ∧ (∀ b, L2.own b → base ≤ b) ∧ L2.shA = L.shA := by
  have hla : ∀ x, x ∈ R → base ≤ a (R.idxOf x) ∧ a (R.idxOf x) < b2 := fun x hx => (hT.obj _ (idx_getD hx).1).2
  have hlh : ∀ x, x ∈ R → 0 < (S (G.sh x)).size → b2 ≤ hb (R.idxOf x) ∧ hb (R.idxOf x) < g := fun x hx hs => by
    obtain ⟨h1, h2⟩ := idx_getD hx
    have hs' : 0 < (S (G.sh (R.getD (R.idxOf x) 0))).size := by rw [h2]; exact hs
    exact ⟨(hT.held _ h1 (hall _ h1) hs').2.1, hlt2 _ h1 hs'⟩
  have hli : ∀ x, x ∈ R → 0 < (S (G.sh x)).size → base ≤ ib (R.idxOf x) ∧ ib (R.idxOf x) < a (R.idxOf x) := fun x hx hs => by
    obtain ⟨h1, h2⟩ := idx_getD hx
    have hs' : 0 < (S (G.sh (R.getD (R.idxOf x) 0))).size := by rw [h2]; exact hs
    have h := hT.ints _ h1 hs'
    exact ⟨h.2.1, h.2.2.1⟩
  have nai : ∀ x y, x ∈ R → y ∈ R → 0 < (S (G.sh y)).size → a (R.idxOf x) ≠ ib (R.idxOf y) := fun x y hx hy hs => by
    obtain ⟨h1, h2⟩ := idx_getD hx
    obtain ⟨h3, h4⟩ := idx_getD hy
    by_cases e : R.idxOf x = R.idxOf y
    · rw [e]
      have := hli y hy hs
      omega
    · exact (hT.ne h1 h3 e).2 (by rw [h4]; exact hs)
  have iaa : ∀ x y, x ∈ R → y ∈ R → a (R.idxOf x) = a (R.idxOf y) → x = y := fun x y hx hy e => by
    by_cases e2 : R.idxOf x = R.idxOf y
    · exact idx_inj hx hy e2
    · exact absurd e (hT.ne (idx_getD hx).1 (idx_getD hy).1 e2).1
  have ihh : ∀ x y, x ∈ R → y ∈ R → 0 < (S (G.sh x)).size → 0 < (S (G.sh y)).size → hb (R.idxOf x) = hb (R.idxOf y) → x = y := fun x y hx hy h1 h2 e => by
    by_cases e2 : R.idxOf x = R.idxOf y
    · exact idx_inj hx hy e2
    · exact absurd e (hT.dis _ _ (idx_getD hx).1 (idx_getD hy).1 (hall _ (idx_getD hx).1) (hall _ (idx_getD hy).1) e2 (by rw [(idx_getD hx).2]; exact h1) (by rw [(idx_getD hy).2]; exact h2))
  have iii : ∀ x y, x ∈ R → y ∈ R → 0 < (S (G.sh x)).size → 0 < (S (G.sh y)).size → ib (R.idxOf x) = ib (R.idxOf y) → x = y := fun x y hx hy h1 h2 e => by
    have hx1 := idx_getD hx
    have hy1 := idx_getD hy
    have k1 := hli x hx h1
    have k2 := hli y hy h2
    rcases Nat.lt_trichotomy (R.idxOf x) (R.idxOf y) with e2 | e2 | e2
    · have := (hT.ord _ _ e2 hy1.1).2 (by rw [hy1.2]; exact h2)
      omega
    · exact idx_inj hx hy e2
    · have := (hT.ord _ _ e2 hx1.1).2 (by rw [hx1.2]; exact h1)
      omega
  generalize hL2 : twinLay L S G g rb rcap R a ib iA ic hb hA hc = L2
  have eg : L2.g = g := by rw [← hL2]; rfl
  have erb : L2.rb = rb := by rw [← hL2]; rfl
  have erc : L2.rcap = rcap := by rw [← hL2]; rfl
  have esA : L2.shA = L.shA := by rw [← hL2]; rfl
  have esc : L2.shcap = L.shcap := by rw [← hL2]; rfl
  have ea : ∀ x, L2.adr x = a (R.idxOf x) := fun x => by rw [← hL2]; rfl
  have eh : ∀ x, L2.hb x = hb (R.idxOf x) := fun x => by rw [← hL2]; rfl
  have ehA : ∀ x, L2.hA x = hA (R.idxOf x) := fun x => by rw [← hL2]; rfl
  have ehc : ∀ x, L2.hc x = hc (R.idxOf x) := fun x => by rw [← hL2]; rfl
  have ei : ∀ x, L2.ib x = ib (R.idxOf x) := fun x => by rw [← hL2]; rfl
  have eiA : ∀ x, L2.iA x = iA (R.idxOf x) := fun x => by rw [← hL2]; rfl
  have eic : ∀ x, L2.ic x = ic (R.idxOf x) := fun x => by rw [← hL2]; rfl
  have ed : ∀ x, L2.dom x = (x ∈ R) := fun x => by rw [← hL2]; rfl
  have ep : ∀ x, L2.ptr x = twp a R x := fun x => by
    unfold Lay.ptr twp
    rw [ea]
  have et : L2.tag = (twinLay L S G g rb rcap R a ib iA ic hb hA hc).tag := by rw [← hL2]
  have tg : L2.tag g = .gr := by rw [et]; exact if_pos rfl
  have tr : L2.tag rb = .ro := by
    rw [et]
    unfold twinLay
    dsimp only
    rw [if_neg (by omega), if_pos rfl]
  have ta : ∀ x, x ∈ R → L2.tag (a (R.idxOf x)) = .ob x := fun x hx => by
    have h1 := hla x hx
    have hex : ∃ y, y ∈ R ∧ a (R.idxOf y) = a (R.idxOf x) := ⟨x, hx, rfl⟩
    rw [et]
    unfold twinLay
    dsimp only
    rw [if_neg (by omega), if_neg (by omega), dif_pos hex]
    have := Classical.choose_spec hex
    rw [iaa _ _ this.1 hx this.2]
  have th : ∀ x, x ∈ R → 0 < (S (G.sh x)).size → L2.tag (hb (R.idxOf x)) = .he x := fun x hx hs => by
    have h1 := hlh x hx hs
    have hex : ∃ y, y ∈ R ∧ 0 < (S (G.sh y)).size ∧ hb (R.idxOf y) = hb (R.idxOf x) := ⟨x, hx, hs, rfl⟩
    rw [et]
    unfold twinLay
    dsimp only
    rw [if_neg (by omega), if_neg (by omega), dif_neg (fun h => by
      obtain ⟨y, hy, e⟩ := h
      have := hla y hy
      omega), dif_pos hex]
    have := Classical.choose_spec hex
    rw [ihh _ _ this.1 hx this.2.1 hs this.2.2]
  have ti : ∀ x, x ∈ R → 0 < (S (G.sh x)).size → L2.tag (ib (R.idxOf x)) = .it x := fun x hx hs => by
    have h1 := hli x hx hs
    have h2 := hla x hx
    have hex : ∃ y, y ∈ R ∧ 0 < (S (G.sh y)).size ∧ ib (R.idxOf y) = ib (R.idxOf x) := ⟨x, hx, hs, rfl⟩
    rw [et]
    unfold twinLay
    dsimp only
    rw [if_neg (by omega), if_neg (by omega), dif_neg (fun h => by
      obtain ⟨y, hy, e⟩ := h
      exact nai y x hy hx hs e), dif_neg (fun h => by
      obtain ⟨y, hy, hs', e⟩ := h
      have := hlh y hy hs'
      omega), dif_pos hex]
    have := Classical.choose_spec hex
    rw [iii _ _ this.1 hx this.2.1 hs this.2.2]
  have own : ∀ b, L2.tag b ≠ .no → base ≤ b ∧ b < W.heap.size := fun b hb' => by
    by_cases e1 : b = g
    · omega
    by_cases e2 : b = rb
    · omega
    rw [et] at hb'
    unfold twinLay at hb'
    dsimp only at hb'
    rw [if_neg e1, if_neg e2] at hb'
    by_cases h1 : ∃ x, x ∈ R ∧ a (R.idxOf x) = b
    · obtain ⟨x, hx, rfl⟩ := h1
      have := hla x hx
      omega
    by_cases h2 : ∃ x, x ∈ R ∧ 0 < (S (G.sh x)).size ∧ hb (R.idxOf x) = b
    · obtain ⟨x, hx, hs, rfl⟩ := h2
      have := hlh x hx hs
      omega
    by_cases h3 : ∃ x, x ∈ R ∧ 0 < (S (G.sh x)).size ∧ ib (R.idxOf x) = b
    · obtain ⟨x, hx, hs, rfl⟩ := h3
      have := hli x hx hs
      have := hla x hx
      omega
    rw [dif_neg h1, dif_neg h2, dif_neg h3] at hb'
    exact absurd rfl hb'
  have hin := hI.isIn
  have hrk := reach_ok hin
  rw [hR] at hrk
  refine ⟨L2, eg, ⟨hI.ok, ?_, ?_, ?_, ?_, ?_, ?_, by rw [eg]; exact tg, by rw [erb]; exact tr, by rw [esA]; exact hI.shp, fun b hb' => ?_, fun t q ht hq => ?_, fun t q ht hq => ?_, fun x hx => ?_, fun b hb' => (own b hb').2, hI.one⟩, fun b hb' => (own b hb').1, esA⟩
  · rw [eg, Lib.cell_of_heap hg]; rfl
  · rw [eg, Lib.cell_of_heap hg]; rfl
  · rw [eg, Lib.cell_of_heap hg, esA, esc]; rfl
  · rw [eg, Lib.cell_of_heap hg, erb, erc]; rfl
  · rw [eg, Lib.cell_of_heap hg]; rfl
  · rw [eg]; simp [World.frozen?, hg]
  · rw [esA] at hb'
    have := hsn b hb'
    apply Classical.byContradiction
    intro e
    have := own _ e
    omega
  · rw [erb, ep]
    exact hro t q ht hq
  · by_cases e : G.root t q = 0
    · exact .inl e
    · exact .inr (by rw [ed, ← hR]; exact reach_root ht hq e)
  · rw [ed] at hx
    obtain ⟨hi, hxe⟩ := idx_getD hx
    have hO := hI.obj x (hrk.2 x hx).2
    have ho := (hT.obj _ hi).1
    rw [if_pos (hall _ hi), hxe] at ho
    have hin1 := hT.ints _ hi
    have hhe1 := hT.held _ hi (hall _ hi)
    rw [hxe] at hin1 hhe1
    refine ⟨hO.num, ?_, ?_, ?_, ?_, ?_, fun hp => ?_, fun f hf => ?_, fun f hf => ?_, fun f hf => ?_⟩
    · rw [ea]; exact ⟨_, _, ho⟩
    · rw [ea, Lib.cell_of_heap ho]; rfl
    · rw [ea, Lib.cell_of_heap ho, ehA, ehc]; rfl
    · rw [ea, Lib.cell_of_heap ho, eiA, eic]; rfl
    · rw [ea]; exact ta x hx
    · rw [ehA, eiA, eh, ei]
      exact ⟨(hhe1 hp).1, (hin1 hp).1, th x hx hp, ti x hx hp⟩
    · obtain ⟨_, _, ⟨c, hcc⟩, h4⟩ := hhe1 (by omega)
      rw [eh, ep]
      exact ⟨h4 f hf, by simp [World.frozen?, hcc]⟩
    · obtain ⟨_, _, _, ⟨c, hcc⟩, h4⟩ := hin1 (by omega)
      rw [ei]
      exact ⟨h4 f hf, by simp [World.frozen?, hcc]⟩
    · by_cases e : G.held S x f = 0
      · exact .inl e
      · refine .inr ?_
        rw [ed]
        have hx' := hx
        rw [← hR] at hx' ⊢
        exact reach_held hin hx' hf e
end
end Go.Proofs.Ytbkaopeajjechaa
