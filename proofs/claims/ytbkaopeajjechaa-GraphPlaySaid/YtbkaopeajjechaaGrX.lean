/- The walks of package graph: all, the objects that can be reached, as they are met. -/
import Derived.RangeFuncNested
import Derived.RangeFuncBound
import Derived.RangeFuncCalls
import Derived.RangeFuncLeaves
import Derived.Shelf.Abstract
import Derived.Shelf.RegionOpen
import Derived.OwnWalkIn
import Derived.TacticsInMore
import Derived.LoopNIn
import Derived.LoopIn
import Derived.Test.YtbkaopeajjechaaGrW
import Derived.Test.YtbkaopeajjechaaRg
namespace Go.Proofs.Ytbkaopeajjechaa
set_option linter.unusedVariables false
set_option linter.unusedSimpArgs false
open Go.RowKit Go.Maps Go.Shelf

attribute [local go_sem] Oper.semAt_some

theorem wideScope {n : Nat} {P : Program} {c : Code} {Q : Exit → Act → World → Prop} {a : Act} {w : World} (h : c.wpIn Fence.wide n P (Exit.noGoto Q) a w) : (Code.scope c).wpIn Fence.wide n P Q a w :=
  wpIn_wide.2 (wp_scope_straight (wpIn_wide.1 h))

theorem wpIn_gen {F : Fence} {n : Nat} {P : Program} {c : Code} {Q : Exit → Act → World → Prop} {a : Act} {w : World} (h : ∀ W, W = w → c.wpIn F n P Q a W) : c.wpIn F n P Q a w := h w rfl

theorem all_any (v : Value) (hv : ∃ p, v = .pointer p) (w : World) :
    Calls Try.prog 36 #[v] w fun e w' => e = .returned (.func (.func 66) #[] #[.pointer (some ⟨w.heap.size, 0, none⟩)]) ∧ w.alloc (.cells #[v] 31) = w' := by
  obtain ⟨p, rfl⟩ := hv
  go_enter Try.func36, Try.ntmps36
  go_wp2
  go_ret
  exact ⟨rfl, rfl⟩

section
variable {T : Nat} {sp : Int} {len : Nat} {S : Nat → ByteArray} {w : World} {L : Lay} {G : Gr} {md : Int}

theorem IsG.isIn (H : IsG T sp len S w L G md) : G.In L.dom T S := ⟨H.rinn, fun x hx f hf => (H.obj x hx).inn f hf, fun x hx => (H.obj x hx).num⟩

/-- What a round leaves alone: lists of objects. -/
def KpG (A B : World) : Prop := ∀ (i : Nat) c f, A.heap[i]? = some (Obj.cells c 71 f) → B.heap[i]? = A.heap[i]?

theorem KpG.refl (A : World) : KpG A A := fun _ _ _ _ => rfl
theorem KpG.trans {A B C : World} (h : KpG A B) (k : KpG B C) : KpG A C :=
  fun i c f e => by have e2 := h i c f e; exact (k i c f (e2.trans e)).trans e2
theorem KpG.put (W : World) (l : Nat) (o o' : Obj) (h : W.heap[l]? = some o) (ho : o.isCells = false) : KpG W (W.putObj l o') := fun i c f e => by
  have hne : l ≠ i := fun k => by
    subst k
    rw [h] at e
    cases e
    cases ho
  simp [World.putObj, Array.getElem?_setIfInBounds, hne]
theorem KpG.set {W : World} {b i : Nat} {v : Value} {c : Array Value} {t : TypeId} (h : W.heap[b]? = some (.cells c t (0, 0))) (ht : t ≠ 71) : KpG W (W.setCell ⟨b, i, none⟩ v) := fun j c' f e => by
  refine Below.heap_setCell W ⟨b, i, none⟩ v j (fun k => ?_)
  have k : j = b := k
  subst k
  rw [h] at e
  injection e with e
  injection e with _ e _
  exact ht e
theorem KpG.below {A B : World} (h : Below A.heap.size A B) : KpG A B := fun i _ _ e => h.block i (by
  rcases Nat.lt_or_ge i A.heap.size with h' | h'
  · exact h'
  · rw [Array.getElem?_eq_none h'] at e; cases e)

theorem grown_below {w W : World} (hb : Below w.heap.size w W) (row : Option Nat) : w.grownBy W row := ⟨hb.os, hb.tape, hb.output, hb.size, fun i hi _ => hb.block i hi⟩

theorem row_form {W : World} {base : Nat} {e : TypeId} {v : Value} {xs : List Value} (h : W.ownsRow base e 1 v xs.length xs) : ∃ A c, v = .slice A xs.length c ∧ ∀ j u, xs[j]? = some u → ∃ g, A = some ⟨g, 0, none⟩ ∧ W.cell? ⟨g, j, none⟩ = some u ∧ ∃ cur, W.heap[g]? = some (Obj.cells cur e (0, 0)) := by
  rcases h.2 with ⟨e1, e2⟩ | ⟨g, c, cur, e1, _, hg, _⟩
  · refine ⟨none, 0, by rw [e1, e2], fun j u hu => ?_⟩
    obtain rfl := List.eq_nil_of_length_eq_zero e2
    simp at hu
  · refine ⟨_, c, e1, fun j u hu => ⟨g, rfl, ?_, cur, hg⟩⟩
    have := h.cells (g := g) (by rw [e1]; rfl) j u hu
    rwa [show (⟨g, 0, none⟩ : Addr).add j = ⟨g, j, none⟩ by unfold Addr.add; split <;> simp_all] at this

set_option maxRecDepth 100000 in
set_option maxHeartbeats 4000000 in
/-- The iterator of a graph that is there: all objects that can be reached, as they are met. -/
theorem all_stops (n : Nat) (hn : 1 ≤ n) (H : IsG T sp len S w L G md) (hnn : G.n ≤ 1000000) (h8 : ∀ i, i < len → (S i).size ≤ 8) (Bs : Nat) (hc : w.cell? ⟨Bs, 0, none⟩ = some (.pointer (some ⟨L.g, 0, none⟩))) :
    SeqO Fence.wide n Try.prog 66 #[.pointer (some ⟨Bs, 0, none⟩)] (fun i : Nat => #[Value.int .i64 ((i : Int) + 1), L.ptr ((G.reach T S).getD i 0)]) KpG (fun pre i => pre = List.range i ∧ i < (G.reach T S).length) (fun ys => ys = List.range (G.reach T S).length) (fun pre => ∃ k, k ≤ (G.reach T S).length ∧ pre = List.range k) w := by
  intro l J Jx W hW hJ hJx hY h0
  have H2 : IsG T sp len S W L G md := H.below hW
  have hBs2 : W.cell? ⟨Bs, 0, none⟩ = some (.pointer (some ⟨L.g, 0, none⟩)) := (hW.cell (p := ⟨Bs, 0, none⟩) (block_lt hc)).trans hc
  have lB : Bs < W.heap.size := block_lt hBs2
  clear H hc hW
  have HH := hide H2
  clear H2
  show CallsIn Fence.wide n Try.prog 66 #[.func (.yield l) #[] #[], .pointer (some ⟨Bs, 0, none⟩)] W _
  refine callsIn_of_wp Try.func66 rfl trivial ?_ rfl
  simp only [Try.ntmps66, List.size_toArray, List.length_cons, List.length_nil, Nat.reduceAdd, Nat.reduceSub, Array.replicate_succ, Array.replicate_zero, List.push_toArray, List.append_toArray, List.nil_append, List.cons_append]
  have hmm := @run_makeMap Try.prog
  have lB1 : Bs < W.heap.size + 1 := by omega
  have lB2 : Bs < W.heap.size + 1 + 1 := by omega
  have lBn : Bs ≠ W.heap.size + 1 + 1 := by omega
  gi_wp2
  refine ⟨trivial, ?_⟩
  generalize hW0 : (((W.alloc (.cells #[.slice none 0 0] 88)).alloc (.map #[] 0)).alloc (.cells #[.map (some (W.heap.size + 1))] 98)) = W0
  have hB0 : Below W.heap.size W W0 := by rw [← hW0]; repeat (first | exact Below.refl _ _ | assumption | refine Below.alloc ?_ (by first | (simp; done) | (simp; omega) | omega) _ | refine Below.setCell ?_ (by first | (simp; done) | (simp; omega) | omega) _ | apply Below.drew | refine Below.trans ?_ (Below.mono (by assumption) (by first | (simp; done) | (simp; omega) | omega)))
  have hz0 : W0.heap.size = W.heap.size + 3 := by rw [← hW0]; simp
  have H0 := hide ((unhide HH).below hB0)
  have q0 : W0.cell? ⟨Bs, 0, none⟩ = some (.pointer (some ⟨L.g, 0, none⟩)) := (hB0.cell (p := ⟨Bs, 0, none⟩) lB).trans hBs2
  have p1 : W0.cell? ⟨W.heap.size + 1 + 1, 0, none⟩ = some (.map (some (W.heap.size + 1))) := by clear hJ hJx hY h0; subst hW0; go_simp
  have p2 : W0.cell? ⟨W.heap.size, 0, none⟩ = some (.slice none 0 0) := by clear hJ hJx hY h0; subst hW0; go_simp
  have p3 : W0.frozen? ⟨W.heap.size, 0, none⟩ = false := by clear hJ hJx hY h0; subst hW0; go_simp
  have p4 : PMap W0 (W.heap.size + 1) [] := by
    rw [← hW0]
    have := (PMap.new (W.alloc (.cells #[.slice none 0 0] 88))).keep (Below.alloc (Below.refl _ _) (Nat.le_refl _) (.cells #[.map (some (W.heap.size + 1))] 98))
    rw [World.size_alloc] at this
    exact this
  clear hW0 hmm
  refine (callsIn_wide.2 (none_no (unhide H0))).mono ?_
  rintro e w1 ⟨rfl, rfl⟩
  have c3 := (unhide H0).c3
  have hT := (unhide H0).one
  have hInn := hide (unhide H0).isIn
  have hS0 : Hid (MetS L W0 (W.heap.size + 3) (W.heap.size + 1 + 1) W.heap.size (W.heap.size + 1) (.slice none 0 0) []) := hide ⟨p1, p2, p3, p4, World.ownsRow_nil _ _ _ _, ⟨by omega, by omega, by omega, by omega⟩, by omega, by omega, by omega⟩
  clear p1 p2 p3 p4
  gi_wp2
  gi_loopw [20] (fun i wr => ∃ j : Nat, j ≤ T ∧ i = .int .i64 j ∧ (∃ v', Hid (MetS L wr (W.heap.size + 3) (W.heap.size + 1 + 1) W.heap.size (W.heap.size + 1) v' (G.met0 j))) ∧ Below W.heap.size W wr) (fun i _ => T - (intOf i).toNat)
  case atStart => exact ⟨0, Nat.zero_le _, rfl, ⟨_, hS0⟩, hB0⟩
  case round =>
    obtain ⟨j, hj, rfl, ⟨v', hS⟩, hB⟩ := hrel
    have q1 : wr.cell? ⟨Bs, 0, none⟩ = some (.pointer (some ⟨L.g, 0, none⟩)) := (hB.cell (p := ⟨Bs, 0, none⟩) lB).trans hBs2
    have HG := hide ((unhide HH).below hB)
    have q3 := (unhide HG).c3
    by_cases hlt : j < T
    · have b0 : (0 : Int) ≤ (j : Int) := by omega
      have b1 : (j : Int) < (T : Int) := by omega
      gi_wp2
      refine ⟨trivial, ?_⟩
      have hM := met0_ok (unhide hInn) j hj
      refine (callsIn_wide.2 (meet_any W.heap.size (W.heap.size + 3) (W.heap.size + 1 + 1) W.heap.size (W.heap.size + 1) (by omega) (some ⟨L.rb, j * 6, none⟩) 6 6 (G.root j) W wr (unhide HH) hnn (Nat.le_refl _) hB v' (G.met0 j) hM (unhide hS) (fun _ => ⟨L.rb, j * 6, rfl, (unhide HH).lt L.rb (by rw [(unhide HH).tr]; simp), fun i hi => ((unhide HG).root j i hlt hi).1⟩) (fun i hi => (unhide HH).rinn j i hlt hi) (by omega))).mono ?_
      rintro e W2 ⟨rfl, ⟨v2, hv2⟩, hB2⟩
      have HS2 := hide hv2
      have HB2 := hide (hB.trans hB2)
      clear hv2 hB2 hM q1 q3 hS
      gi_wp2
      go_roundw
      case measure => simp [intOf]; omega
      case rel => exact ⟨j + 1, by omega, by go_num, ⟨v2, HS2⟩, unhide HB2⟩
    · obtain rfl : T = j := by omega
      gi_wp2
      clear hS0 hB0 H0 q0 q1 q3 HG c3
      gi_loopw [7] (fun i wr => ∃ j v' M, i = .int .i64 (j : Nat) ∧ j ≤ M.length ∧ M = G.met T S j ∧ Hid (MetS L wr (W.heap.size + 3) (W.heap.size + 1 + 1) W.heap.size (W.heap.size + 1) v' M) ∧ Below W.heap.size W wr) (fun i _ => 1000000 - (intOf i).toNat)
      case atStart => exact ⟨0, v', G.met0 T, rfl, Nat.zero_le _, rfl, hS, hB⟩
      case round =>
        obtain ⟨j, v1, M, rfl, hjM, hMe, hS1, hB1⟩ := hrel
        have hln := met_len (unhide hInn) j
        have hMo := met_ok (unhide hInn) j
        rw [← hMe] at hln hMo
        have HMe := hide hMe
        clear hMe
        have s2 := (unhide hS1).cm
        have HG := hide ((unhide HH).below hB1)
        have hr := (unhide hS1).row
        rw [← List.length_map (f := L.ptr)] at hr
        obtain ⟨A1, c1, rfl, hfm⟩ := row_form hr
        rw [List.length_map] at s2 hS1 hr
        by_cases hlt : j < M.length
        · have hx : M.getD j 0 ∈ M := by rw [getD_at hlt]; exact List.getElem_mem hlt
          have hd := (hMo.2 _ hx).2
          have hx0 := (hMo.2 _ hx).1
          have hnext := step_new (S := S) (G := G) M j hlt
          have hat : M[j]? = some (M.getD j 0) := by rw [getD_at hlt]; exact List.getElem?_eq_getElem hlt
          generalize hxe : M.getD j 0 = x at *
          obtain ⟨g, rfl, hcell, -⟩ := hfm j (L.ptr x) (by simp [hat])
          rw [show L.ptr x = .pointer (some ⟨L.adr x, 0, none⟩) by unfold Lay.ptr; rw [if_neg hx0]] at hcell
          have hO := (unhide HG).obj x hd
          have o1 := hO.c1
          have b0 : (0 : Int) ≤ (j : Int) := by omega
          have b1 : (j : Int) < (M.length : Int) := by omega
          gi_wp2
          refine ⟨trivial, ?_⟩
          have hO2 := (unhide HH).obj x hd
          refine (callsIn_wide.2 (meet_any W.heap.size (W.heap.size + 3) (W.heap.size + 1 + 1) W.heap.size (W.heap.size + 1) (by omega) (L.hA x) (S (G.sh x)).size (L.hc x) (G.held S x) W wr (unhide HH) hnn (Nat.le_refl _) hB1 _ M hMo (unhide hS1) (fun hp => ⟨L.hb x, 0, (hO2.pos hp).1, (unhide HH).lt (L.hb x) (by rw [(hO2.pos hp).2.2.1]; simp), fun i hi => by rw [Nat.zero_add]; exact (hO.held i hi).1⟩) (fun i hi => hO2.inn i hi) (h8 _ ((unhide HH).ok.sh x hO2.num.1 hO2.num.2)))).mono ?_
          rintro e W2 ⟨rfl, ⟨v2, hv2⟩, hB2⟩
          have HS2 := hide hv2
          have HB2 := hide (hB1.trans hB2)
          have hpre := meetL_pre (G.kids S x) M
          clear hv2 hB2 s2 hcell o1 hO hO2 hS1
          gi_wp2
          go_roundw
          case measure => simp [intOf]; omega
          case rel =>
            refine ⟨j + 1, v2, _, by go_num, ?_, ?_, HS2, unhide HB2⟩
            · obtain ⟨r, hr⟩ := hpre
              show j + 1 ≤ (meetL M (G.kids S x)).length
              rw [hr, List.length_append]
              omega
            · show meetL M (G.kids S x) = G.step S (G.met T S j) j
              rw [← unhide HMe, hnext]
        · have hMl : M.length = j := by omega
          have hMr : M = G.reach T S := by rw [unhide HMe]; exact met_reach (unhide hInn) j (by rw [← unhide HMe, hMl])
          have HMr := hide hMr
          clear hMr hMl
          gi_wp2
          obtain ⟨V, hV⟩ : ∃ V, V = wr := ⟨_, rfl⟩
          rw [← hV] at hfm
          have hJ2 := hide (hJ _ _ _ h0 (grown_below hB1 none))
          gi_loopw [50] (fun i wz => ∃ k : Nat, k ≤ M.length ∧ i = .int .i64 k ∧ Hid (J (List.range k) wz) ∧ KpG V wz) (fun i _ => M.length - (intOf i).toNat)
          case atStart => exact ⟨0, Nat.zero_le _, rfl, hJ2, by rw [hV]; exact KpG.refl _⟩
          case round =>
            obtain ⟨k, hk, rfl, hJs, hkp⟩ := hrel
            by_cases hlt : k < M.length
            · obtain ⟨g, rfl, hcell, cur, hcur⟩ := hfm k (L.ptr (M.getD k 0)) (by simp [getD_at hlt, List.getElem?_eq_getElem hlt])
              have hc2 : wr.cell? ⟨g, k, none⟩ = some (L.ptr (M.getD k 0)) := (World.cell?_of_block (a := ⟨g, k, none⟩) (hkp g _ _ hcur)).trans hcell
              obtain ⟨fn, tmps, assign, body, hy, hR⟩ := hY (List.range k) k wr (unhide hJs) ⟨rfl, by rw [← unhide HMr]; exact hlt⟩
              rw [← unhide HMr] at hy
              generalize M.getD k 0 = x at hc2 hcell hy
              have b0 : (0 : Int) ≤ (k : Int) := by omega
              have b1 : (k : Int) < (M.length : Int) := by omega
              gi_wp2
              refine hR.mono ?_
              rintro e W3 (⟨rfl, hJ3, hk3⟩ | ⟨rfl, hJx3⟩)
              · gi_wp2
                go_roundw
                case rel => exact ⟨k + 1, by omega, by go_num, hide (by rw [List.range_succ]; exact hJ3), hkp.trans hk3⟩
                case measure => simp [intOf]; omega
              · gi_wp2
                (try simp only [Exit.noGoto])
                first | go_end0 | refine bodyPost_ret (results_none rfl _ _ _) rfl ?_
                exact ⟨⟨_, rfl⟩, .inr ⟨_, ⟨k + 1, by rw [← unhide HMr]; omega, List.range_succ.symm⟩, hJx3⟩⟩
            · obtain rfl : k = M.length := by omega
              gi_wp2
              (try simp only [Exit.noGoto])
              first | go_end0 | refine bodyPost_ret (results_none rfl _ _ _) rfl ?_
              exact ⟨⟨_, rfl⟩, .inl ⟨_, by rw [← unhide HMr], unhide hJs⟩⟩
end
end Go.Proofs.Ytbkaopeajjechaa
