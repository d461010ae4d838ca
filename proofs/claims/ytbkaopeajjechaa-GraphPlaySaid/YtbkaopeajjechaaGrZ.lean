/- The walks of package slices: Clone. (Printed by gen_grz.py.) -/
import Derived.Test.YtbkaopeajjechaaGrY
import Derived.OwnWalk
import Derived.Laws.OwnMore
import Derived.Lib.SliceRun
namespace Go.Proofs.Ytbkaopeajjechaa
set_option linter.unusedVariables false
set_option linter.unusedSimpArgs false
open Go.RowKit Go.Maps

theorem cell_old {w : World} {p : Addr} {v : Value} {o : Obj} (h : w.cell? p = some v) : (w.alloc o).cell? p = some v := by
  have hl : p.block < w.heap.size := block_lt h
  exact (((Below.refl _ _).alloc (Nat.le_refl _) o).cell hl).trans h

theorem add_zero' (b o j : Nat) : (⟨b, o, none⟩ : Addr).add j = ⟨b, o + j, none⟩ := by unfold Addr.add; split <;> simp_all

set_option maxRecDepth 100000 in
theorem inf_cloneI : ∃ i : TypeInfo, Try.prog.info? 2 = some i ∧ i.zero = some (.int .i64 0) ∧ i.size = 1 ∧ i.bytes = 8 := ⟨_, rfl, rfl, rfl, rfl⟩

set_option maxRecDepth 100000 in
set_option maxHeartbeats 4000000 in
theorem cloneI (A : Option Addr) (m cap : Nat) (xs : List Value) (w : World) (hl : xs.length = m * 1) (h1 : ∀ u ∈ xs, u.oneCell' = true) (hA : 0 < m → ∃ b o, A = some ⟨b, o, none⟩ ∧ ∀ (j : Nat) u, xs[j]? = some u → w.cell? ⟨b, o + j, none⟩ = some u) (hm : m ≤ 32) :
    Calls Try.prog 37 #[.slice A m cap] w fun e w' => ∃ v', e = .returned v' ∧ Below w.heap.size w w' ∧ w'.ownsRow w.heap.size 2 1 v' m xs := by
  have HA := hide hA
  clear hA
  cases A with
  | none =>
    have h0 : m = 0 := by
      rcases Nat.eq_zero_or_pos m with h | h
      · exact h
      · obtain ⟨b, o, hb, _⟩ := unhide HA h
        cases hb
    subst h0
    obtain rfl : xs = [] := List.eq_nil_of_length_eq_zero (by rw [hl])
    clear HA h1 hl
    have hq := fun W => Lib.run_eql_slice_nil (P := Try.prog) W 89 2 none 0 cap 0 0 Try.underlying89
    go_enter Try.func37, Try.ntmps37
    go_wp2
    (try (go_step3; refine fwd_goto ?_; go_wp2))
    (first | rw [fwd_ret] | rw [Exit.noGoto_ret] | skip)
    go_ret
    exact ⟨_, rfl, Below.refl _ _, World.ownsRow_nil _ _ _ _⟩
  | some a =>
    obtain ⟨i0, hi, hz0, hz1, hz3⟩ := inf_cloneI
    have hnew : ∀ (j : Nat) u, xs[j]? = some u → w.cell? (a.add j) = some u := fun j u hu => by
      have hj : j < xs.length := (List.getElem?_eq_some_iff.1 hu).1
      obtain ⟨b, o, hb, hc⟩ := unhide HA (by omega)
      injection hb with hb
      subst hb
      rw [add_zero']
      exact hc j u hu
    have HN := hide hnew
    have H1 := hide h1
    have HL := hide hl
    clear HA hnew h1 hl
    have how : (w.alloc (.cells #[] 2)).ownsRow w.heap.size 2 1 (.slice (some ⟨w.heap.size, 0, none⟩) 0 0) 0 [] := World.ownsRow_made w #[] 0 (Nat.le_refl _) (by decide) rfl
    have hq := fun W => Lib.run_eql_slice_nil (P := Try.prog) W 89 2 (some a) m cap 0 0 Try.underlying89
    go_enter Try.func37, Try.ntmps37
    go_wp2_with (at_builtin; refine wpList_append_own _ rfl (.tmp 5) (.tmp 6) _ rfl w.heap.size 2 i0 (.int .i64 0) 1 8 Try.underlying89 hi hz0 hz1 hz3 rfl (by decide) _ _ _ rfl how a m cap xs rfl (unhide HL) ?c1 (unhide H1) ?c3 ?c4 ?c5 ?_)
    case c1 => exact fun j u hu => cell_old (unhide HN j u hu)
    case c3 => simp only [maxLen]; omega
    case c4 => omega
    case c5 => simp
    intro v' w' how' hg _
    have hb : Below w.heap.size w w' := ((Below.refl _ _).alloc (Nat.le_refl _) _).grown hg (by simp) (fun r hr => by
      have hr : some w.heap.size = some r := by first | exact hr | exact hr.symm
      injection hr with hr
      omega)
    have HO := hide how'
    clear how' hg how
    go_wp2
    (try (go_step3; refine fwd_goto ?_; go_wp2))
    (first | rw [fwd_ret] | rw [Exit.noGoto_ret] | skip)
    go_ret
    exact ⟨_, rfl, hb, by simpa using unhide HO⟩

set_option maxRecDepth 100000 in
theorem inf_cloneR : ∃ i : TypeInfo, Try.prog.info? 74 = some i ∧ i.zero = some (.agg #[.pointer none, .pointer none, .pointer none, .pointer none, .pointer none, .pointer none]) ∧ i.size = 6 ∧ i.bytes = 48 := ⟨_, rfl, rfl, rfl, rfl⟩

set_option maxRecDepth 100000 in
set_option maxHeartbeats 4000000 in
theorem cloneR (A : Option Addr) (m cap : Nat) (xs : List Value) (w : World) (hl : xs.length = m * 6) (h1 : ∀ u ∈ xs, u.oneCell' = true) (hA : 0 < m → ∃ b o, A = some ⟨b, o, none⟩ ∧ ∀ (j : Nat) u, xs[j]? = some u → w.cell? ⟨b, o + j, none⟩ = some u) (hm : m ≤ 32) :
    Calls Try.prog 38 #[.slice A m cap] w fun e w' => ∃ v', e = .returned v' ∧ Below w.heap.size w w' ∧ w'.ownsRow w.heap.size 74 6 v' m xs := by
  have HA := hide hA
  clear hA
  cases A with
  | none =>
    have h0 : m = 0 := by
      rcases Nat.eq_zero_or_pos m with h | h
      · exact h
      · obtain ⟨b, o, hb, _⟩ := unhide HA h
        cases hb
    subst h0
    obtain rfl : xs = [] := List.eq_nil_of_length_eq_zero (by rw [hl])
    clear HA h1 hl
    have hq := fun W => Lib.run_eql_slice_nil (P := Try.prog) W 62 74 none 0 cap 0 0 Try.underlying62
    go_enter Try.func38, Try.ntmps38
    go_wp2
    (try (go_step3; refine fwd_goto ?_; go_wp2))
    (first | rw [fwd_ret] | rw [Exit.noGoto_ret] | skip)
    go_ret
    exact ⟨_, rfl, Below.refl _ _, World.ownsRow_nil _ _ _ _⟩
  | some a =>
    obtain ⟨i0, hi, hz0, hz1, hz3⟩ := inf_cloneR
    have hnew : ∀ (j : Nat) u, xs[j]? = some u → w.cell? (a.add j) = some u := fun j u hu => by
      have hj : j < xs.length := (List.getElem?_eq_some_iff.1 hu).1
      obtain ⟨b, o, hb, hc⟩ := unhide HA (by omega)
      injection hb with hb
      subst hb
      rw [add_zero']
      exact hc j u hu
    have HN := hide hnew
    have H1 := hide h1
    have HL := hide hl
    clear HA hnew h1 hl
    have how : (w.alloc (.cells #[] 74)).ownsRow w.heap.size 74 6 (.slice (some ⟨w.heap.size, 0, none⟩) 0 0) 0 [] := World.ownsRow_made w #[] 0 (Nat.le_refl _) (by decide) rfl
    have hq := fun W => Lib.run_eql_slice_nil (P := Try.prog) W 62 74 (some a) m cap 0 0 Try.underlying62
    go_enter Try.func38, Try.ntmps38
    go_wp2_with (at_builtin; refine wpList_append_own _ rfl (.tmp 5) (.tmp 6) _ rfl w.heap.size 74 i0 (.agg #[.pointer none, .pointer none, .pointer none, .pointer none, .pointer none, .pointer none]) 6 48 Try.underlying62 hi hz0 hz1 hz3 rfl (by decide) _ _ _ rfl how a m cap xs rfl (unhide HL) ?c1 (unhide H1) ?c3 ?c4 ?c5 ?_)
    case c1 => exact fun j u hu => cell_old (unhide HN j u hu)
    case c3 => simp only [maxLen]; omega
    case c4 => omega
    case c5 => simp
    intro v' w' how' hg _
    have hb : Below w.heap.size w w' := ((Below.refl _ _).alloc (Nat.le_refl _) _).grown hg (by simp) (fun r hr => by
      have hr : some w.heap.size = some r := by first | exact hr | exact hr.symm
      injection hr with hr
      omega)
    have HO := hide how'
    clear how' hg how
    go_wp2
    (try (go_step3; refine fwd_goto ?_; go_wp2))
    (first | rw [fwd_ret] | rw [Exit.noGoto_ret] | skip)
    go_ret
    exact ⟨_, rfl, hb, by simpa using unhide HO⟩

set_option maxRecDepth 100000 in
theorem inf_cloneS : ∃ i : TypeInfo, Try.prog.info? 65 = some i ∧ i.zero = some (.string ⟨#[]⟩) ∧ i.size = 1 ∧ i.bytes = 16 := ⟨_, rfl, rfl, rfl, rfl⟩

set_option maxRecDepth 100000 in
set_option maxHeartbeats 4000000 in
theorem cloneS (A : Option Addr) (m cap : Nat) (xs : List Value) (w : World) (hl : xs.length = m * 1) (h1 : ∀ u ∈ xs, u.oneCell' = true) (hA : 0 < m → ∃ b o, A = some ⟨b, o, none⟩ ∧ ∀ (j : Nat) u, xs[j]? = some u → w.cell? ⟨b, o + j, none⟩ = some u) (hm : m ≤ 32) :
    Calls Try.prog 29 #[.slice A m cap] w fun e w' => ∃ v', e = .returned v' ∧ Below w.heap.size w w' ∧ w'.ownsRow w.heap.size 65 1 v' m xs := by
  have HA := hide hA
  clear hA
  cases A with
  | none =>
    have h0 : m = 0 := by
      rcases Nat.eq_zero_or_pos m with h | h
      · exact h
      · obtain ⟨b, o, hb, _⟩ := unhide HA h
        cases hb
    subst h0
    obtain rfl : xs = [] := List.eq_nil_of_length_eq_zero (by rw [hl])
    clear HA h1 hl
    have hq := fun W => Lib.run_eql_slice_nil (P := Try.prog) W 22 65 none 0 cap 0 0 Try.underlying22
    go_enter Try.func29, Try.ntmps29
    go_wp2
    (try (go_step3; refine fwd_goto ?_; go_wp2))
    (first | rw [fwd_ret] | rw [Exit.noGoto_ret] | skip)
    go_ret
    exact ⟨_, rfl, Below.refl _ _, World.ownsRow_nil _ _ _ _⟩
  | some a =>
    obtain ⟨i0, hi, hz0, hz1, hz3⟩ := inf_cloneS
    have hnew : ∀ (j : Nat) u, xs[j]? = some u → w.cell? (a.add j) = some u := fun j u hu => by
      have hj : j < xs.length := (List.getElem?_eq_some_iff.1 hu).1
      obtain ⟨b, o, hb, hc⟩ := unhide HA (by omega)
      injection hb with hb
      subst hb
      rw [add_zero']
      exact hc j u hu
    have HN := hide hnew
    have H1 := hide h1
    have HL := hide hl
    clear HA hnew h1 hl
    have how : (w.alloc (.cells #[] 65)).ownsRow w.heap.size 65 1 (.slice (some ⟨w.heap.size, 0, none⟩) 0 0) 0 [] := World.ownsRow_made w #[] 0 (Nat.le_refl _) (by decide) rfl
    have hq := fun W => Lib.run_eql_slice_nil (P := Try.prog) W 22 65 (some a) m cap 0 0 Try.underlying22
    go_enter Try.func29, Try.ntmps29
    go_wp2_with (at_builtin; refine wpList_append_own _ rfl (.tmp 5) (.tmp 6) _ rfl w.heap.size 65 i0 (.string ⟨#[]⟩) 1 16 Try.underlying22 hi hz0 hz1 hz3 rfl (by decide) _ _ _ rfl how a m cap xs rfl (unhide HL) ?c1 (unhide H1) ?c3 ?c4 ?c5 ?_)
    case c1 => exact fun j u hu => cell_old (unhide HN j u hu)
    case c3 => simp only [maxLen]; omega
    case c4 => omega
    case c5 => simp
    intro v' w' how' hg _
    have hb : Below w.heap.size w w' := ((Below.refl _ _).alloc (Nat.le_refl _) _).grown hg (by simp) (fun r hr => by
      have hr : some w.heap.size = some r := by first | exact hr | exact hr.symm
      injection hr with hr
      omega)
    have HO := hide how'
    clear how' hg how
    go_wp2
    (try (go_step3; refine fwd_goto ?_; go_wp2))
    (first | rw [fwd_ret] | rw [Exit.noGoto_ret] | skip)
    go_ret
    exact ⟨_, rfl, hb, by simpa using unhide HO⟩
end Go.Proofs.Ytbkaopeajjechaa
