/- The walks of package graph: Words and Made. -/
import Derived.Test.YtbkaopeajjechaaGrX
import Derived.Test.YtbkaopeajjechaaRi
namespace Go.Proofs.Ytbkaopeajjechaa
set_option linter.unusedVariables false
set_option linter.unusedSimpArgs false
open Go.RowKit Go.Maps Go.Shelf

attribute [local go_sem] Oper.semAt_some

section
variable {T : Nat} {sp : Int} {len : Nat} {S : Nat → ByteArray} {w : World} {L : Lay} {G : Gr} {md : Int}

theorem made_g (H : IsG T sp len S w L G md) : Calls Try.prog 24 #[.pointer (some ⟨L.g, 0, none⟩)] w fun e w' => e = .returned (.int .i64 md) ∧ w = w' := by
  have c1 := none_no H
  have c4 := H.c4
  clear H
  go_enter Try.func24, Try.ntmps24
  go_wp2_with fail
  refine c1.mono ?_
  rintro e w1 ⟨rfl, rfl⟩
  go_wp2
  (try (go_step3; refine fwd_goto ?_; go_wp2))
  (first | rw [fwd_ret] | rw [Exit.noGoto_ret] | skip)
  go_ret
  exact ⟨rfl, rfl⟩

theorem made_nil (w : World) : Calls Try.prog 24 #[.pointer none] w fun e w' => e = .returned (.int .i64 0) ∧ w = w' := by
  have c1 := none_nil w
  go_enter Try.func24, Try.ntmps24
  go_wp2_with fail
  refine c1.mono ?_
  rintro e w1 ⟨rfl, rfl⟩
  go_wp2
  (try (go_step3; refine fwd_goto ?_; go_wp2))
  (first | rw [fwd_ret] | rw [Exit.noGoto_ret] | skip)
  go_ret
  exact ⟨rfl, rfl⟩

theorem made_zero {w : World} {g : Nat} {A : Option Addr} {c : Nat} (h3 : w.cell? ⟨g, 3, none⟩ = some (.slice A 0 c)) : Calls Try.prog 24 #[.pointer (some ⟨g, 0, none⟩)] w fun e w' => e = .returned (.int .i64 0) ∧ w = w' := by
  have c1 := none_zero h3
  clear h3
  go_enter Try.func24, Try.ntmps24
  go_wp2_with fail
  refine c1.mono ?_
  rintro e w1 ⟨rfl, rfl⟩
  go_wp2
  (try (go_step3; refine fwd_goto ?_; go_wp2))
  (first | rw [fwd_ret] | rw [Exit.noGoto_ret] | skip)
  go_ret
  exact ⟨rfl, rfl⟩

theorem keepsFrom_below {A B : World} (h : Below A.heap.size A B) (n : Nat) : KeepsFrom n A B := ⟨h.size, fun k o _ hk _ => (h.block k (Array.getElem?_eq_some_iff.1 hk).1).trans hk⟩

theorem own_heap {β : Type} {B k : Nat} {o : β → Obj} (hk : k < B) : OwnFrom B (fun s W => W.heap[k]? = some (o s)) := fun s W W' row hs hg hr =>
  (hg.block k (Array.getElem?_eq_some_iff.1 hs).1 (fun e => by have := (hr k (by first | exact e | exact e.symm)).1; omega)).trans hs

theorem map_getD (R : List Nat) : (List.range R.length).map (fun i => R.getD i 0) = R := by
  apply List.ext_getElem
  · simp
  · intro i h1 h2
    simp [List.getElem?_eq_getElem h2]

theorem szV_ok (H : G.Ok len S T) {x : Nat} (h1 : 1 ≤ x) (h2 : x ≤ G.n) : szV len S (G.sh x) = (2 + (S (G.sh x)).size : Nat) ∧ ofE len S (G.sh x) = 0 := by
  have hl := H.sh x h1 h2
  have e : ofE len S (G.sh x) = 0 := by
    unfold ofE
    rw [if_pos (okTB_iff.2 H.tab), if_pos ⟨by omega, by omega⟩]
  refine ⟨?_, e⟩
  unfold szV
  rw [if_pos e, Int.toNat_natCast]
  simp

/-- The words of objects. -/
def wordsOf (S : Nat → ByteArray) (G : Gr) : List Nat → Nat
  | [] => 0
  | x :: xs => 2 + (S (G.sh x)).size + wordsOf S G xs

theorem wordsOf_le (h : ∀ i, i < len → (S i).size ≤ 8) : ∀ xs : List Nat, (∀ x ∈ xs, G.sh x < len) → wordsOf S G xs ≤ 10 * xs.length
  | [], _ => by simp [wordsOf]
  | x :: xs, hx => by
    have := wordsOf_le h xs (fun y hy => hx y (List.mem_cons_of_mem _ hy))
    have := h _ (hx x List.mem_cons_self)
    simp only [wordsOf, List.length_cons]
    omega

theorem wordsOf_snoc (x : Nat) : ∀ xs : List Nat, wordsOf S G (xs ++ [x]) = wordsOf S G xs + (2 + (S (G.sh x)).size)
  | [] => by simp [wordsOf]
  | y :: ys => by simp only [List.cons_append, wordsOf, wordsOf_snoc x ys]; omega

set_option maxRecDepth 100000 in
set_option maxHeartbeats 4000000 in
theorem words_any (H : IsG T sp len S w L G md) (hnn : G.n ≤ 1000000) (h8 : ∀ i, i < len → (S i).size ≤ 8) (hlen : len ≤ 16) :
    Calls Try.prog 22 #[.pointer (some ⟨L.g, 0, none⟩)] w fun e w' => e = .returned (.int .i64 (wordsOf S G (G.reach T S) : Nat)) ∧ Below w.heap.size w w' := by
  have HI := hide H
  clear H
  refine (callsIn_wide (n := 6)).1 ?_
  refine callsIn_of_wp_marks Try.func22 rfl trivial ?_ rfl
  simp only [Try.ntmps22, List.size_toArray, List.length_cons, List.length_nil, Nat.reduceAdd, Nat.reduceSub, Array.replicate_succ, Array.replicate_zero, List.push_toArray, List.append_toArray, List.nil_append, List.cons_append]
  gi_wp2
  refine ⟨trivial, ?_⟩
  refine (callsIn_wide.2 (all_any _ ⟨_, rfl⟩ _)).mono ?_
  rintro e w4 ⟨rfl, hE⟩
  have hi0 := (MapKept.heap_alloc w (.cells #[.pointer (some ⟨L.g, 0, none⟩)] 31)).1
  generalize hW1 : w.alloc (.cells #[.pointer (some ⟨L.g, 0, none⟩)] 31) = W1 at hE hi0
  have z1 : W1.heap.size = w.heap.size + 1 := by rw [← hW1]; simp
  have b1 : Below w.heap.size w W1 := by rw [← hW1]; repeat (first | exact Below.refl _ _ | assumption | refine Below.alloc ?_ (by first | (simp; done) | (simp; omega) | omega) _ | refine Below.setCell ?_ (by first | (simp; done) | (simp; omega) | omega) _ | apply Below.drew | refine Below.trans ?_ (Below.mono (by assumption) (by first | (simp; done) | (simp; omega) | omega)))
  have hi1 := (MapKept.heap_alloc W1 (.cells #[.int .i64 0] 3)).1
  generalize hW2 : W1.alloc (.cells #[.int .i64 0] 3) = W2 at hE hi1
  have z2 : W2.heap.size = w.heap.size + 2 := by rw [← hW2]; simp [z1]
  have b2 : Below W1.heap.size W1 W2 := by rw [← hW2]; repeat (first | exact Below.refl _ _ | assumption | refine Below.alloc ?_ (by first | (simp; done) | (simp; omega) | omega) _ | refine Below.setCell ?_ (by first | (simp; done) | (simp; omega) | omega) _ | apply Below.drew | refine Below.trans ?_ (Below.mono (by assumption) (by first | (simp; done) | (simp; omega) | omega)))
  have hi2 := (MapKept.heap_alloc W2 (.cells #[.pointer (some ⟨L.g, 0, none⟩)] 31)).1
  rw [hE] at hi2
  have z4 : w4.heap.size = w.heap.size + 3 := by rw [← hE]; simp [z2]
  have b4 : Below W2.heap.size W2 w4 := by rw [← hE]; repeat (first | exact Below.refl _ _ | assumption | refine Below.alloc ?_ (by first | (simp; done) | (simp; omega) | omega) _ | refine Below.setCell ?_ (by first | (simp; done) | (simp; omega) | omega) _ | apply Below.drew | refine Below.trans ?_ (Below.mono (by assumption) (by first | (simp; done) | (simp; omega) | omega)))
  clear hW1 hW2 hE
  have hB4 : Below w.heap.size w w4 := (b1.trans (b2.mono (by omega))).trans (b4.mono (by omega))
  have k0 : w4.heap[w.heap.size]? = some (.cells #[.pointer (some ⟨L.g, 0, none⟩)] 31 (0, 0)) := ((b2.trans (b4.mono (by omega))).block w.heap.size (by omega)).trans hi0
  have k1 : w4.heap[w.heap.size + 1]? = some (.cells #[.int .i64 0] 3 (0, 0)) := by
    rw [z1] at hi1
    exact (b4.block (w.heap.size + 1) (by omega)).trans hi1
  have kB : w4.cell? ⟨w.heap.size + 2, 0, none⟩ = some (.pointer (some ⟨L.g, 0, none⟩)) := by
    rw [z2] at hi2
    rw [Lib.cell_of_heap hi2]
    rfl
  have H4 := hide ((unhide HI).below hB4)
  have hrl := reach_len (unhide HI).isIn
  have hro := hide (reach_ok (unhide HI).isIn)
  clear hi0 hi1 hi2 b1 b2 b4
  rw [z2]
  have hs := all_stops 5 (by omega) (unhide H4) hnn h8 (w.heap.size + 2) kB
  generalize hR : G.reach T S = R at *
  gi_wp2
  refine wpIn_rangeFunc_O rfl (by omega) (gf := 66) (lb := #[.pointer (some ⟨w.heap.size + 2, 0, none⟩)]) rfl trivial (enters_of Try.func66 (by kernel_rfl) rfl)
    hs KpG.trans (fun W l o o' _ hl ho _ => KpG.put W l o o' hl ho) (Below.refl _ _) (fun _ => rfl)
    (fun ys W => (W.heap[w.heap.size]? = some (.cells #[.pointer (some ⟨L.g, 0, none⟩)] 31 (0, 0)) ∧ W.heap[w.heap.size + 1]? = some (.cells #[.int .i64 (wordsOf S G (ys.map fun i => R.getD i 0) : Nat)] 3 (0, 0))) ∧ Below w.heap.size w W)
    (fun _ _ _ => False)
    (OwnFrom.and (OwnFrom.and (own_heap (o := fun _ => _) (by omega)) (own_heap (o := fun ys : List Nat => .cells #[.int .i64 (wordsOf S G (ys.map fun i => R.getD i 0) : Nat)] 3 (0, 0)) (by omega))) (ownFrom_below (Nat.le_refl _) (by omega)))
    (fun _ _ _ _ _ hs _ _ => hs)
    ⟨⟨k0, k1⟩, hB4⟩
    (fun x => { tmps := #[Value.pointer (some ⟨L.g, 0, none⟩), Value.pointer (some ⟨w.heap.size, 0, none⟩), Value.int .i64 0, Value.pointer (some ⟨w.heap.size + 1, 0, none⟩), undef, L.ptr (R.getD x 0), undef, undef, Value.pointer (some ⟨L.g, 0, none⟩), Value.func (.func 66) #[] #[.pointer (some ⟨w.heap.size + 2, 0, none⟩)], Value.int .i64 ((x : Int) + 1), L.ptr (R.getD x 0), undef, undef, undef, undef, undef, undef, undef, undef, undef, undef, undef, undef, undef, undef, undef, undef, undef], defers := [] }) ?assign ?body ?done (fun D c pre W _ _ h _ => h.elim)
  case assign =>
    intro l x W K hK
    generalize R.getD x 0 = y at *
    gi_wp2
    exact hK
  case body =>
    rintro l pre x W ⟨⟨i1, i2⟩, hB⟩ ⟨rfl, hx⟩
    have hmem : R.getD x 0 ∈ R := by rw [getD_at hx]; exact List.getElem_mem hx
    have hsn : wordsOf S G ((List.range x ++ [x]).map fun i => R.getD i 0) = wordsOf S G ((List.range x).map fun i => R.getD i 0) + (2 + (S (G.sh (R.getD x 0))).size) := by
      rw [List.map_append]; exact wordsOf_snoc _ _
    have hle := wordsOf_le h8 ((List.range x).map fun i => R.getD i 0) (G := G) (fun y hy => by
      obtain ⟨i, hi, rfl⟩ := List.mem_map.1 hy
      have hi := List.mem_range.1 hi
      have hm : R.getD i 0 ∈ R := by rw [getD_at (by omega)]; exact List.getElem_mem _
      have hd := (unhide hro).2 _ hm
      exact (unhide HI).ok.sh _ (by omega) ((unhide HI).obj _ hd.2).num.2)
    simp only [List.length_map, List.length_range] at hle
    have hd := (unhide hro).2 _ hmem
    have HS := hide hsn
    clear hsn
    generalize hs0 : wordsOf S G ((List.range x).map fun i => R.getD i 0) = s0 at *
    generalize R.getD x 0 = y at *
    have HW := hide ((unhide HI).below hB)
    have hO := (unhide HW).obj y hd.2
    have hsz := szV_ok (unhide HI).ok hO.num.1 hO.num.2
    have h9 := h8 _ ((unhide HI).ok.sh y hO.num.1 hO.num.2)
    have u0 : ∀ v : Later W, v.val.cell? ⟨w.heap.size, 0, none⟩ = some (.pointer (some ⟨L.g, 0, none⟩)) := Later.cell (by have := hB.size; exact (Array.getElem?_eq_some_iff.1 i1).1) (by rw [Lib.cell_of_heap i1]; rfl)
    have u1 : ∀ v : Later W, v.val.cell? ⟨L.g, 2, none⟩ = some (.slice L.shA len L.shcap) := Later.cell (block_lt (unhide HW).c2) (unhide HW).c2
    have u2 : ∀ v : Later W, v.val.cell? ⟨L.adr y, 0, none⟩ = some (.int .i64 (G.sh y)) := Later.cell hO.lt hO.c0
    have CS : Hid (∀ v : Later W, Calls Try.prog 43 #[.slice L.shA len L.shcap, .int .i64 (G.sh y)] v.val fun e w' => e = .returned (.tuple #[.int .i64 (2 + (S (G.sh y)).size : Nat), .int .i64 0]) ∧ Below v.val.heap.size v.val w') := hide (fun v => by
      have := shSize_any L.shA len L.shcap S (by omega) (fun i hi => by have := h8 i hi; omega) (G.sh y) v.val ((unhide HW).shp.keep v.ok)
      rw [hsz.1, hsz.2] at this
      exact this)
    have hp : L.ptr y = .pointer (some ⟨L.adr y, 0, none⟩) := by unfold Lay.ptr; rw [if_neg hd.1]
    rw [hp]
    clear hO hsz
    generalize (S (G.sh y)).size = q at *
    gi_wp2
    refine wpIn_region_later W (by kernel_rfl) (by kernel_rfl) (by rfl) (by rintro ⟨_, _, h⟩; exact h) (by repeat (first | exact Below.refl _ _ | assumption | refine Below.alloc ?_ (by first | (simp; done) | (simp; omega) | omega) _ | refine Below.setCell ?_ (by first | (simp; done) | (simp; omega) | omega) _ | apply Below.drew | refine Below.trans ?_ (Below.mono (by assumption) (by first | (simp; done) | (simp; omega) | omega)))) ?_; (repeat (first | go_big_quiet_skip | (go_big_quiet_want; (first | ((fail); go_big_quiet_on; simp only [Act.put, List.setIfInBounds_toArray, List.set_cons_zero, List.set_cons_succ]) | (go_big_quiet_op; (first | go_big_quiet_on | go_big_quiet_call ((first | (go_at_call 43; exact later_call (unhide CS _)))))))))); refine wpQuiet_nil ?_; intro U hU
    have hWs := hB.size
    have hUs := hU.size
    have j2 : U.heap[w.heap.size + 1]? = some (.cells #[.int .i64 (s0 : Nat)] 3 (0, 0)) := (hU.block _ (Array.getElem?_eq_some_iff.1 i2).1).trans i2
    have j1 : U.heap[w.heap.size]? = some (.cells #[.pointer (some ⟨L.g, 0, none⟩)] 31 (0, 0)) := (hU.block _ (Array.getElem?_eq_some_iff.1 i1).1).trans i1
    have v2 : U.cell? ⟨w.heap.size + 1, 0, none⟩ = some (.int .i64 (s0 : Nat)) := by rw [Lib.cell_of_heap j2]; rfl
    have f2 : U.frozen? ⟨w.heap.size + 1, 0, none⟩ = false := by simp [World.frozen?, j2]
    have HB := hide hB
    have hBU : Below w.heap.size w U := hB.trans (hU.mono hWs)
    clear u0 u1 u2 CS i1 i2 HI HW H4 hB hro
    gi_wp2
    have hst := heap_setCell_same U (w.heap.size + 1) 0 _ _ (.int .i64 ((s0 : Int) + (2 + (q : Int)))) j2
    refine ⟨KeepsFrom.trans (keepsFrom_below hU _) ((KeepsOthers.setCell _ _ _).from _), KpG.trans (KpG.below hU) (KpG.set j2 (by decide)), ⟨?_, ?_⟩, hBU.setCell (p := ⟨w.heap.size + 1, 0, none⟩) (by show w.heap.size ≤ w.heap.size + 1; omega) _⟩
    · exact (Below.heap_setCell U ⟨w.heap.size + 1, 0, none⟩ _ w.heap.size (by show ¬ w.heap.size = w.heap.size + 1; omega)).trans j1
    · rw [hst, unhide HS]
      simp
  case done =>
    rintro D ys W hD rfl ⟨⟨i1, i2⟩, hB⟩ hK
    rw [map_getD] at i2
    have v2 : W.cell? ⟨w.heap.size + 1, 0, none⟩ = some (.int .i64 (wordsOf S G R : Nat)) := by rw [Lib.cell_of_heap i2]; rfl
    clear i1 i2
    gi_wp2
    refine ⟨by simp, .inl ⟨_, _, rfl, run_takeDeferred hK, ?_⟩⟩
    have hP : Below w.heap.size W (W.putObj D (.deferred none)) := belowK_b (w := w4) (by omega) W D _ _ hD hK rfl rfl
    refine ⟨_, results_tmp rfl _ _ _, ?_, hB.trans hP⟩
    rw [hR]
    rfl
end
end Go.Proofs.Ytbkaopeajjechaa
