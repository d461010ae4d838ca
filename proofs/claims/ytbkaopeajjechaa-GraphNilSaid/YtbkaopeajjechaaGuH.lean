/- The walks of package graph where no graph is there: View, Copy, Words. -/
import Derived.Test.YtbkaopeajjechaaGuF
namespace Go.Proofs.Ytbkaopeajjechaa
set_option linter.unusedVariables false
set_option linter.unusedSimpArgs false
open Go.RowKit Go.Maps Go.Shelf

attribute [local go_sem] Oper.semAt_some

set_option maxRecDepth 100000 in
set_option maxHeartbeats 4000000 in
theorem view_none (p : Option Addr) (w : World) (h1 : ∀ W, Below w.heap.size w W → Calls Try.prog 31 #[.pointer p] W fun e w' => e = .returned (.bool true) ∧ W = w') :
    Calls Try.prog 20 #[.pointer p] w fun e w' => e = .returned (.agg #[.slice none 0 0, .slice none 0 0]) ∧ Below w.heap.size w w' := by
  have c0 := hide h1
  clear h1
  refine (callsIn_wide (n := 8)).1 ?_
  refine callsIn_of_wp_marks Try.func20 rfl trivial ?_ rfl
  simp only [Try.ntmps20, List.size_toArray, List.length_cons, List.length_nil, Nat.reduceAdd, Nat.reduceSub, Array.replicate_succ, Array.replicate_zero, List.push_toArray, List.append_toArray, List.nil_append, List.cons_append]
  gi_wp2
  refine ⟨trivial, ?_⟩
  refine (callsIn_wide.2 (unhide c0 _ (by repeat (first | exact Below.refl _ _ | assumption | refine Below.alloc ?_ (by first | (simp; done) | (simp; omega) | omega) _ | refine Below.setCell ?_ (by first | (simp; done) | (simp; omega) | omega) _ | apply Below.drew | refine Below.trans ?_ (Below.mono (by assumption) (by first | (simp; done) | (simp; omega) | omega)))))).mono ?_
  rintro e w1 ⟨rfl, rfl⟩
  gi_wp2
  have hld : (loadVar 56 ⟨w.heap.size + 1, 0, none⟩).run Try.prog (((w.alloc (.cells #[.pointer p] 31)).alloc (.cells #[.slice none 0 0, .slice none 0 0] 56)).alloc (.cells #[.slice none 0 0, .slice none 0 0] 56)) = .ok (.agg #[.slice none 0 0, .slice none 0 0]) (((w.alloc (.cells #[.pointer p] 31)).alloc (.cells #[.slice none 0 0, .slice none 0 0] 56)).alloc (.cells #[.slice none 0 0, .slice none 0 0] 56)) := by
    go_simp
  exact ⟨_, results_cell1 rfl rfl hld, rfl, by repeat (first | exact Below.refl _ _ | assumption | refine Below.alloc ?_ (by first | (simp; done) | (simp; omega) | omega) _ | refine Below.setCell ?_ (by first | (simp; done) | (simp; omega) | omega) _ | apply Below.drew | refine Below.trans ?_ (Below.mono (by assumption) (by first | (simp; done) | (simp; omega) | omega)))⟩

set_option maxRecDepth 100000 in
set_option maxHeartbeats 4000000 in
theorem copy_none (p : Option Addr) (w : World) (h1 : ∀ W, Below w.heap.size w W → Calls Try.prog 31 #[.pointer p] W fun e w' => e = .returned (.bool true) ∧ W = w') :
    Calls Try.prog 15 #[.pointer p] w fun e w' => e = .returned (.pointer none) ∧ Below w.heap.size w w' := by
  have c0 := hide h1
  clear h1
  refine (callsIn_wide (n := 6)).1 ?_
  refine callsIn_of_wp_marks Try.func15 rfl trivial ?_ rfl
  simp only [Try.ntmps15, List.size_toArray, List.length_cons, List.length_nil, Nat.reduceAdd, Nat.reduceSub, Array.replicate_succ, Array.replicate_zero, List.push_toArray, List.append_toArray, List.nil_append, List.cons_append]
  gi_wp2
  refine ⟨trivial, ?_⟩
  refine (callsIn_wide.2 (unhide c0 _ (by repeat (first | exact Below.refl _ _ | assumption | refine Below.alloc ?_ (by first | (simp; done) | (simp; omega) | omega) _ | refine Below.setCell ?_ (by first | (simp; done) | (simp; omega) | omega) _ | apply Below.drew | refine Below.trans ?_ (Below.mono (by assumption) (by first | (simp; done) | (simp; omega) | omega)))))).mono ?_
  rintro e w1 ⟨rfl, rfl⟩
  gi_wp2
  exact ⟨_, results_tmp rfl _ _ _, rfl, Below.refl _ _⟩

set_option maxRecDepth 100000 in
set_option maxHeartbeats 4000000 in
/-- The iterator of a graph that is not there: nothing. -/
theorem all_gone (n : Nat) (hn : 1 ≤ n) (p : Option Addr) {w : World} (h1 : ∀ W, Below w.heap.size w W → Calls Try.prog 31 #[.pointer p] W fun e w' => e = .returned (.bool true) ∧ W = w') (Bs : Nat) (hc : w.cell? ⟨Bs, 0, none⟩ = some (.pointer p)) (enc : Nat → Array Value) :
    SeqO Fence.wide n Try.prog 66 #[.pointer (some ⟨Bs, 0, none⟩)] enc KpG (fun _ _ => False) (fun ys => ys = []) (fun _ => False) w := by
  intro l J Jx W hW hJ hJx hY h0
  have hBs2 : W.cell? ⟨Bs, 0, none⟩ = some (.pointer p) := (hW.cell (p := ⟨Bs, 0, none⟩) (block_lt hc)).trans hc
  have lB : Bs < W.heap.size := block_lt hBs2
  have lw := hW.size
  have c0 := hide (fun U (hU : Below W.heap.size W U) => h1 U (hW.trans (hU.mono lw)))
  clear h1 hc hW
  show CallsIn Fence.wide n Try.prog 66 #[.func (.yield l) #[] #[], .pointer (some ⟨Bs, 0, none⟩)] W _
  refine callsIn_of_wp Try.func66 rfl trivial ?_ rfl
  simp only [Try.ntmps66, List.size_toArray, List.length_cons, List.length_nil, Nat.reduceAdd, Nat.reduceSub, Array.replicate_succ, Array.replicate_zero, List.push_toArray, List.append_toArray, List.nil_append, List.cons_append]
  have hmm := @run_makeMap Try.prog
  have lB1 : Bs < W.heap.size + 1 := by omega
  have lB2 : Bs < W.heap.size + 1 + 1 := by omega
  have lBn : Bs ≠ W.heap.size + 1 + 1 := by omega
  gi_wp2
  refine ⟨trivial, ?_⟩
  generalize hW0 : (((W.alloc (.cells #[.slice none 0 0] 88)).alloc (.map #[] 0)).alloc (.cells #[.map (some (W.heap.size + 1))] 98)) = W0
  have hB0 : Below W.heap.size W W0 := by rw [← hW0]; repeat (first | exact Below.refl _ _ | assumption | refine Below.alloc ?_ (by first | (simp; done) | (simp; omega) | omega) _ | refine Below.setCell ?_ (by first | (simp; done) | (simp; omega) | omega) _ | apply Below.drew | refine Below.trans ?_ (Below.mono (by assumption) (by first | (simp; done) | (simp; omega) | omega)))
  have q0 : W0.cell? ⟨Bs, 0, none⟩ = some (.pointer p) := (hB0.cell (p := ⟨Bs, 0, none⟩) lB).trans hBs2
  have p2 : W0.cell? ⟨W.heap.size, 0, none⟩ = some (.slice none 0 0) := by clear hJ hJx hY h0; subst hW0; go_simp
  have hJ0 := hJ _ _ _ h0 (grown_below hB0 none)
  clear hW0 hmm
  refine (callsIn_wide.2 (unhide c0 _ hB0)).mono ?_
  rintro e w1 ⟨rfl, rfl⟩
  gi_wp2
  gi_loopw [7] (fun i wr => i = .int .i64 0 ∧ wr = W0) (fun i _ => 1)
  case atStart => exact ⟨rfl, rfl⟩
  case round =>
    obtain ⟨rfl, rfl⟩ := hrel
    gi_wp2
    gi_loopw [50] (fun i wz => i = .int .i64 0 ∧ wz = wr) (fun i _ => 1)
    case atStart => exact ⟨rfl, rfl⟩
    case round =>
      obtain ⟨rfl, rfl⟩ := hrel
      gi_wp2
      (try simp only [Exit.noGoto])
      first | go_end0 | refine bodyPost_ret (results_none rfl _ _ _) rfl ?_
      exact ⟨⟨_, rfl⟩, .inl ⟨_, rfl, hJ0⟩⟩

set_option maxRecDepth 100000 in
set_option maxHeartbeats 4000000 in
theorem words_none (p : Option Addr) (w : World) (h1 : ∀ W, Below w.heap.size w W → Calls Try.prog 31 #[.pointer p] W fun e w' => e = .returned (.bool true) ∧ W = w') :
    Calls Try.prog 22 #[.pointer p] w fun e w' => e = .returned (.int .i64 0) ∧ Below w.heap.size w w' := by
  have c0 := hide h1
  clear h1
  refine (callsIn_wide (n := 6)).1 ?_
  refine callsIn_of_wp_marks Try.func22 rfl trivial ?_ rfl
  simp only [Try.ntmps22, List.size_toArray, List.length_cons, List.length_nil, Nat.reduceAdd, Nat.reduceSub, Array.replicate_succ, Array.replicate_zero, List.push_toArray, List.append_toArray, List.nil_append, List.cons_append]
  gi_wp2
  refine ⟨trivial, ?_⟩
  refine (callsIn_wide.2 (all_any _ ⟨_, rfl⟩ _)).mono ?_
  rintro e w4 ⟨rfl, hE⟩
  have hE' : [.cells #[.pointer p] 31, .cells #[.int .i64 0] 3, .cells #[.pointer p] 31].foldl World.alloc w = w4 := hE
  have z4 := allocs_size [.cells #[.pointer p] 31, .cells #[.int .i64 0] 3, .cells #[.pointer p] 31] w
  have hB4 := allocs_below [.cells #[.pointer p] 31, .cells #[.int .i64 0] 3, .cells #[.pointer p] 31] w
  have hA4 := allocs_at [.cells #[.pointer p] 31, .cells #[.int .i64 0] 3, .cells #[.pointer p] 31] w
  rw [hE'] at z4 hB4 hA4
  clear hE hE'
  simp only [World.size_alloc]
  have a1 : w4.heap[w.heap.size + 1]? = _ := hA4 1 _ rfl
  have a2 : w4.heap[w.heap.size + 1 + 1]? = _ := hA4 2 _ rfl
  simp only [List.length_cons, List.length_nil] at z4
  have kB : w4.cell? ⟨w.heap.size + 1 + 1, 0, none⟩ = some (.pointer p) := by rw [Lib.cell_of_heap a2]; rfl
  have hz4 : w.heap.size ≤ w4.heap.size := by omega
  have hs := all_gone 5 (by omega) p (w := w4) (fun W hW => unhide c0 W (hB4.trans (hW.mono hz4))) (w.heap.size + 1 + 1) kB (fun _ => #[undef, undef])
  clear hA4 a2 kB z4
  gi_wp2
  refine wpIn_rangeFunc_O rfl (by omega) (gf := 66) (lb := #[.pointer (some ⟨w.heap.size + 1 + 1, 0, none⟩)]) rfl trivial (enters_of Try.func66 (by kernel_rfl) rfl)
    hs KpG.trans (fun W l o o' _ hl ho _ => KpG.put W l o o' hl ho) (Below.refl _ _) (fun _ => rfl)
    (fun ys W => Below w4.heap.size w4 W)
    (fun _ _ _ => False)
    (ownFrom_below (Nat.le_refl _) (Nat.le_refl _))
    (fun _ _ _ _ _ hs _ _ => hs)
    (Below.refl _ _)
    ?a1 ?assign (fun l pre x W _ h => h.elim) ?done (fun D c pre W _ h _ _ => h.elim)
  case assign =>
    intro l x W K hK
    gi_wp2
    exact hK
  case done =>
    rintro D ys W hD rfl hW hK
    have v1 : W.cell? ⟨w.heap.size + 1, 0, none⟩ = some (.int .i64 0) := by
      rw [Lib.cell_of_heap ((hW.block _ (Array.getElem?_eq_some_iff.1 a1).1).trans a1)]
      rfl
    gi_wp2
    refine ⟨by simp, .inl ⟨_, _, rfl, run_takeDeferred hK, ?_⟩⟩
    have hP : Below w.heap.size W (W.putObj D (.deferred none)) := belowK_b (w := w4) (by omega) W D _ _ hD hK rfl rfl
    exact ⟨_, results_tmp rfl _ _ _, rfl, (hB4.trans (hW.mono hz4)).trans hP⟩
end Go.Proofs.Ytbkaopeajjechaa
