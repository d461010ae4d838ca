/- The iterator of an arena, each element known to lie in it. -/
import Derived.Test.YtnnllhlcpmmcaaaArG
namespace Go.Proofs.Ytnnllhlcpmmcaaa
set_option linter.unusedVariables false
set_option linter.unusedSimpArgs false
open Go.RowKit Go.Shelf

attribute [local go_sem] Oper.semAt_some

/-- Every block below n but one is as it was. -/
def KeepBut (n x : Nat) (P Q : World) : Prop := P.heap.size ≤ Q.heap.size ∧ ∀ i, i < n → i ≠ x → Q.heap[i]? = P.heap[i]?

theorem KeepBut.trans {n x : Nat} {A B C : World} (h : KeepBut n x A B) (k : KeepBut n x B C) : KeepBut n x A C :=
  ⟨Nat.le_trans h.1 k.1, fun i hi hx => (k.2 i hi hx).trans (h.2 i hi hx)⟩

theorem KeepBut.refl (n x : Nat) (A : World) : KeepBut n x A A := ⟨Nat.le_refl _, fun _ _ _ => rfl⟩

/-- The iterator of an arena that is there: every word comes. -/
theorem all_stopsF (n : Nat) (hn : 1 ≤ n) (g h m Bs : Nat) (xs : Nat → Int) (n₀ : Nat) (w : World) (hI : IsAr w g h m xs) (hg : g < n₀) (hh : h < n₀) (hBs : Bs < n₀) (hn₀ : n₀ ≤ w.heap.size) (hx : Nat) (hgx : g ≠ hx) (hhx : h ≠ hx) (hBx : Bs ≠ hx) (hc : w.cell? ⟨Bs, 0, none⟩ = some (.pointer (some ⟨g, 0, none⟩))) :
    SeqStopsK Fence.wide n Try.prog 69 #[.pointer (some ⟨Bs, 0, none⟩)] (fun i : Fin m => #[Value.int .i64 (i.val : Int), Value.int .u64 (xs i.val)]) (KeepBut n₀ hx) (fun ys => ∀ i : Fin m, i ∈ ys) (fun _ => True) m w := by
  intro l J Jx W hW hJ hJx hY h0
  have hI2 : IsAr W g h m xs := hI.keep hW
  have hBs2 : W.cell? ⟨Bs, 0, none⟩ = some (.pointer (some ⟨g, 0, none⟩)) := (hW.cell (p := ⟨Bs, 0, none⟩) (Nat.lt_of_lt_of_le hBs hn₀)).trans hc
  have hsW : n₀ ≤ W.heap.size := Nat.le_trans hn₀ hW.size
  have HI := hide hI2
  clear hI hI2
  show CallsIn Fence.wide n Try.prog 69 #[.func (.yield l) #[] #[], .pointer (some ⟨Bs, 0, none⟩)] W _
  refine callsIn_of_wp Try.func69 rfl trivial ?_ rfl
  simp only [Try.ntmps69, List.size_toArray, List.length_cons, List.length_nil, Nat.reduceAdd, Nat.reduceSub, Array.replicate_succ, Array.replicate_zero, List.push_toArray, List.append_toArray, List.nil_append, List.cons_append]
  refine wideScope ?_
  gi_wp2
  refine wpIn_label ?_
  gi_wp2
  refine ⟨trivial, ?_⟩
  refine (callsIn_wide.2 (len_any g h m xs W (unhide HI))).mono ?_
  rintro e w1 ⟨rfl, hw1⟩
  have hB1 : KeepBut n₀ hx W w1 := ⟨hw1.size, fun i hi _ => hw1.block i (Nat.lt_of_lt_of_le hi hsW)⟩
  have hJ1 : J [] w1 := hJ _ _ _ none h0 (grown_below hw1 none) (by intro r e; cases e)
  gi_wp2
  gi_loopw [6] (fun i wr => ∃ (k : Nat) (ys : List (Fin m)), k ≤ m ∧ i = .int .i64 k ∧ ys.length = k ∧ (∀ q : Fin m, q.val < k → q ∈ ys) ∧ J ys wr ∧ KeepBut n₀ hx W wr) (fun i _ => m - (intOf i).toNat)
  case atStart => exact ⟨0, [], Nat.zero_le _, rfl, rfl, fun q hq => absurd hq (by omega), hJ1, hB1⟩
  case round =>
    obtain ⟨k, ys, hk, rfl, hyl, hys, hJs, hnx⟩ := hrel
    by_cases hlt : k < m
    · obtain ⟨i1, i2, i3, i4, i5, i6⟩ := unhide HI
      have q0 : wr.cell? ⟨Bs, 0, none⟩ = some (.pointer (some ⟨g, 0, none⟩)) := (World.cell?_of_block (a := ⟨Bs, 0, none⟩) (hnx.2 Bs hBs hBx)).trans hBs2
      have q1 : wr.cell? ⟨g, 0, none⟩ = some (.slice (some ⟨h, 0, none⟩) m m) := (World.cell?_of_block (a := ⟨g, 0, none⟩) (hnx.2 g hg hgx)).trans i1
      have q2 : wr.cell? ⟨h, k, none⟩ = some (.int .u64 (xs k)) := (World.cell?_of_block (a := ⟨h, k, none⟩) (hnx.2 h hh hhx)).trans (i6 k hlt).1
      obtain ⟨fn, tmps, assign, body, hy, hR⟩ := hY ys ⟨k, hlt⟩ wr hJs (by omega)
      have hm : m ≤ 16384 := i5.2
      clear i1 i6 hBs2 hc
      gi_wp2
      refine hR.mono ?_
      rintro e W3 (⟨rfl, hJ3, hk3⟩ | ⟨rfl, hJx3⟩)
      · gi_wp2
        go_roundw
        case rel => exact ⟨k + 1, ys ++ [⟨k, hlt⟩], by omega, by go_num, by simp [hyl], fun q hq => by
          by_cases e : q.val < k
          · exact List.mem_append_left _ (hys q e)
          · exact List.mem_append_right _ (by
              have : q = ⟨k, hlt⟩ := Fin.ext (by show q.val = k; omega)
              simp [this]), hJ3, hnx.trans hk3⟩
        case measure => simp [intOf]; omega
      · gi_wp2
        (try simp only [Exit.noGoto])
        go_end0
        exact ⟨⟨_, rfl⟩, .inr ⟨_, trivial, hJx3⟩⟩
    · obtain rfl : k = m := by omega
      gi_wp2
      (try simp only [Exit.noGoto])
      go_end0
      exact ⟨⟨_, rfl⟩, .inl ⟨_, fun q => hys q q.isLt, hJs⟩⟩
end Go.Proofs.Ytnnllhlcpmmcaaa
