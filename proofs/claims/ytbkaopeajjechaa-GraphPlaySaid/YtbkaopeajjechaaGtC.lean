/- The walks of package graph: View. -/
import Derived.Test.YtbkaopeajjechaaGuE
import Derived.Test.YtbkaopeajjechaaGrY
import Derived.Test.YtbkaopeajjechaaGuA
namespace Go.Proofs.Ytbkaopeajjechaa
set_option linter.unusedVariables false
set_option linter.unusedSimpArgs false
open Go.RowKit Go.Maps Go.Shelf

attribute [local go_sem] Oper.semAt_some

theorem chg_grown {b : Nat} {A B : World} (h : Chg (fun c => c = b) A B) : A.grownBy B (some b) :=
  ⟨h.os, h.tape, h.output, h.size, fun i hi hne => h.block i hi (fun e => hne (by first | exact e | exact e.symm | exact congrArg some e | exact congrArg some e.symm))⟩
theorem keeps_chg {b n : Nat} {A B : World} (h : Chg (fun c => c = b) A B) (hb : b < n) : KeepsFrom n A B :=
  ⟨h.size, fun k o hk e _ => (h.block k (Array.getElem?_eq_some_iff.1 e).1 (fun e2 => by have e2 : k = b := e2; omega)).trans e⟩
theorem kpg_chg {b : Nat} {A B : World} {c : Array Value} {t : TypeId} (h : Chg (fun c => c = b) A B) (hb : A.heap[b]? = some (Obj.cells c t (0, 0))) (ht : t ≠ 71) : KpG A B := fun i c' f e =>
  h.block i (Array.getElem?_eq_some_iff.1 e).1 (fun k => by
    have k : i = b := k
    subst k
    rw [hb] at e
    injection e with e
    injection e with _ e _
    exact ht e)

theorem wpIn_act {F : Fence} {n : Nat} {P : Program} {c : Code} {Q : Exit → Act → World → Prop} {a : Act} {w : World} (h : ∀ b, b = a → c.wpIn F n P Q b w) : c.wpIn F n P Q a w := h a rfl

/-- A field more of a node: behind the append, then behind the store. -/
theorem view_step {V2 U' w5 : World} {bn Bs : Nat} {sh x nf v' : Value} {xs : List Value} {k : Nat} (h1 : U'.heap[bn]? = some (Obj.cells #[sh, nf] 97 (0, 0))) (h2 : U'.ownsRow V2.heap.size 2 1 nf k xs) (h3 : Chg (fun b => b = bn) V2 U')
    (hb : bn < V2.heap.size) (hB : Bs ≠ bn) (hBs : Bs < V2.heap.size) (how : w5.ownsRow V2.heap.size 2 1 v' (k + 1) (xs ++ [x])) (hg : (U'.alloc (.cells #[x] 2)).grownBy w5 nf.ownBlock) :
    w5.heap[bn]? = some (Obj.cells #[sh, nf] 97 (0, 0)) ∧ KeepsFrom V2.heap.size U' (w5.setCell ⟨bn, 1, none⟩ v') ∧ KpS Bs U' (w5.setCell ⟨bn, 1, none⟩ v') ∧
    (w5.setCell ⟨bn, 1, none⟩ v').heap[bn]? = some (Obj.cells #[sh, v'] 97 (0, 0)) ∧ (w5.setCell ⟨bn, 1, none⟩ v').ownsRow V2.heap.size 2 1 v' (k + 1) (xs ++ [x]) ∧ Chg (fun b => b = bn) V2 (w5.setCell ⟨bn, 1, none⟩ v') := by
  have hz := h3.size
  have hba : Below U'.heap.size U' (U'.alloc (.cells #[x] 2)) := (Below.refl _ _).alloc (Nat.le_refl _) _
  have ho : ∀ r, nf.ownBlock = some r → V2.heap.size ≤ r := fun r hr => (h2.lt r hr).1
  have hbk : ∀ b, b < U'.heap.size → b < V2.heap.size → w5.heap[b]? = U'.heap[b]? := fun b hb1 hb2 => (hg.block b (by simp; omega) (fun e => by
    have := ho b (by first | exact e | exact e.symm)
    omega)).trans (hba.block b hb1)
  have hn := (hbk bn (by omega) hb).trans h1
  have hko : KeepsOthers U' (w5.setCell ⟨bn, 1, none⟩ v') := ((KeepsOthers.alloc U' _).trans (KeepsOthers.of_grownBy hg (fun j o hj ho' => by
    obtain ⟨cur, hc⟩ := own_type (h2.alloc (.cells #[x] 2)) j hj
    rw [hc] at ho'
    injection ho' with ho'
    rw [← ho']
    rfl))).trans (KeepsOthers.setCell _ _ _)
  have hst := heap_setCell_same w5 bn 1 _ _ v' hn
  refine ⟨hn, hko.from _, ⟨hko.walks, fun c t f e => ?_⟩, hst.trans (by simp), how.kept (set_grown w5 bn 1 v') ?_, ?_⟩
  · refine (Below.heap_setCell w5 ⟨bn, 1, none⟩ v' Bs hB).trans (hbk Bs (Array.getElem?_eq_some_iff.1 e).1 hBs)
  · cases e : v'.ownBlock with
    | none => exact .inl rfl
    | some r =>
      refine .inr (fun h => ?_)
      have := (how.lt r e).1
      injection h with h
      omega
  · have h4 : Chg (fun b => b = bn) V2 w5 := ⟨hg.os.trans (h3.alloc _).os, hg.tape.trans (h3.alloc _).tape, hg.output.trans (h3.alloc _).output, by have := hg.size; simp at this; omega, fun i hi hne => (hbk i (by omega) hi).trans (h3.block i hi hne)⟩
    exact h4.set (.inr rfl) _

theorem fin_map {α : Type} (m : Nat) (g : Nat → α) : (List.finRange m).map (fun f => g f.val) = (List.range m).map g := by
  apply List.ext_getElem
  · simp
  · intro i h1 h2
    simp
theorem new_cellsV (w : World) (l : List Value) (t : TypeId) : ∀ (j : Nat) u, l[j]? = some u → (w.alloc (.cells l.toArray t)).cell? ((⟨w.heap.size, 0, none⟩ : Addr).add j) = some u := fun j u h => by
  rw [show (⟨w.heap.size, 0, none⟩ : Addr).add j = ⟨w.heap.size, j, none⟩ by unfold Addr.add; split <;> simp_all]
  rw [Lib.cell_of_heap (MapKept.heap_alloc w _).1]
  simpa using h

/-- An object as an address. -/
def Lay.po (L : Lay) (k : Nat) : Option Addr := if k = 0 then none else some ⟨L.adr k, 0, none⟩
theorem ptr_po (L : Lay) (k : Nat) : L.ptr k = .pointer (L.po k) := by
  unfold Lay.ptr Lay.po
  split <;> rfl

section
variable {T : Nat} {sp : Int} {len : Nat} {S : Nat → ByteArray} {w : World} {L : Lay} {G : Gr} {md : Int}

set_option maxRecDepth 100000 in
set_option maxHeartbeats 8000000 in
theorem view_any (H : IsG T sp len S w L G md) (hnn : G.n ≤ 1000000) :
    Calls Try.prog 20 #[.pointer (some ⟨L.g, 0, none⟩)] w fun e w' => ∃ v, e = .returned v ∧ RdVw w' v (G.view T S) ∧ Below w.heap.size w w' := by
  have h8 : ∀ i, i < len → (S i).size ≤ 8 := fun i hi => (H.ok.tab.2.2 i hi).1
  have HI := hide H
  have c0 := hide (fun W (hW : Below w.heap.size w W) => none_no (H.below hW))
  clear H
  have hmm := @run_makeMap Try.prog
  refine (callsIn_wide (n := 8)).1 ?_
  refine callsIn_of_wp_marks Try.func20 rfl trivial ?_ rfl
  simp only [Try.ntmps20, List.size_toArray, List.length_cons, List.length_nil, Nat.reduceAdd, Nat.reduceSub, Array.replicate_succ, Array.replicate_zero, List.push_toArray, List.append_toArray, List.nil_append, List.cons_append]
  gi_wp2
  refine ⟨trivial, ?_⟩
  refine (callsIn_wide.2 (unhide c0 _ (by repeat (first | exact Below.refl _ _ | assumption | refine Below.alloc ?_ (by first | (simp; done) | (simp; omega) | omega) _ | refine Below.setCell ?_ (by first | (simp; done) | (simp; omega) | omega) _ | apply Below.drew | refine Below.trans ?_ (Below.mono (by assumption) (by first | (simp; done) | (simp; omega) | omega)))))).mono ?_
  rintro e w1 ⟨rfl, rfl⟩
  gi_wp2
  refine ⟨trivial, ?_⟩
  refine (callsIn_wide.2 (all_any _ ⟨_, rfl⟩ _)).mono ?_
  rintro e w4 ⟨rfl, hE⟩
  have hE' : [.cells #[.pointer (some ⟨L.g, 0, none⟩)] 31, .cells #[.slice none 0 0, .slice none 0 0] 56, .cells #[.slice none 0 0, .slice none 0 0] 56, .map #[] 0, .cells #[.map (some (w.heap.size + 1 + 1 + 1))] 98, .cells #[.pointer (some ⟨L.g, 0, none⟩)] 31].foldl World.alloc w = w4 := hE
  have z4 := allocs_size [.cells #[.pointer (some ⟨L.g, 0, none⟩)] 31, .cells #[.slice none 0 0, .slice none 0 0] 56, .cells #[.slice none 0 0, .slice none 0 0] 56, .map #[] 0, .cells #[.map (some (w.heap.size + 1 + 1 + 1))] 98, .cells #[.pointer (some ⟨L.g, 0, none⟩)] 31] w
  have hB4 := allocs_below [.cells #[.pointer (some ⟨L.g, 0, none⟩)] 31, .cells #[.slice none 0 0, .slice none 0 0] 56, .cells #[.slice none 0 0, .slice none 0 0] 56, .map #[] 0, .cells #[.map (some (w.heap.size + 1 + 1 + 1))] 98, .cells #[.pointer (some ⟨L.g, 0, none⟩)] 31] w
  have hA4 := allocs_at [.cells #[.pointer (some ⟨L.g, 0, none⟩)] 31, .cells #[.slice none 0 0, .slice none 0 0] 56, .cells #[.slice none 0 0, .slice none 0 0] 56, .map #[] 0, .cells #[.map (some (w.heap.size + 1 + 1 + 1))] 98, .cells #[.pointer (some ⟨L.g, 0, none⟩)] 31] w
  rw [hE'] at z4 hB4 hA4
  clear hE hE' hmm
  simp only [World.size_alloc]
  have a0 : w4.heap[w.heap.size]? = _ := hA4 0 _ rfl
  have a1 : w4.heap[w.heap.size + 1]? = _ := hA4 1 _ rfl
  have a2 : w4.heap[w.heap.size + 1 + 1]? = _ := hA4 2 _ rfl
  have a3 : w4.heap[w.heap.size + 1 + 1 + 1]? = _ := hA4 3 _ rfl
  have a4 : w4.heap[w.heap.size + 1 + 1 + 1 + 1]? = _ := hA4 4 _ rfl
  have a5 : w4.heap[w.heap.size + 1 + 1 + 1 + 1 + 1]? = _ := hA4 5 _ rfl
  clear hA4 z4
  generalize g0 : w.heap.size = b0 at *
  generalize g1 : b0 + 1 = b1 at *
  generalize g2 : b1 + 1 = b2 at *
  generalize g3 : b2 + 1 = b3 at *
  generalize g4 : b3 + 1 = b4 at *
  generalize g5 : b4 + 1 = b5 at *
  have hz4 : b5 < w4.heap.size := (Array.getElem?_eq_some_iff.1 a5).1
  have hp4 : PMap w4 b3 [] := ⟨a3, fun x hx => by cases hx⟩
  have kB : w4.cell? ⟨b5, 0, none⟩ = some (.pointer (some ⟨L.g, 0, none⟩)) := by rw [Lib.cell_of_heap a5]; rfl
  have H4 := hide ((unhide HI).below (by rw [g0]; exact hB4))
  have hrl := reach_len (unhide HI).isIn
  have hro := hide (reach_ok (unhide HI).isIn)
  clear a5
  have hs := all_stops 7 (by omega) (unhide H4) hnn h8 b5 kB
  generalize hR : G.reach T S = R at *
  have HHS := hide hs
  gi_wp2
  refine wpIn_rangeFunc_O rfl (by omega) (gf := 66) (lb := #[.pointer (some ⟨b5, 0, none⟩)]) rfl trivial (enters_of Try.func66 (by kernel_rfl) rfl)
    hs KpG.trans (fun W l o o' _ hl ho _ => KpG.put W l o o' hl ho) (Below.refl _ _) (fun _ => rfl)
    (fun ys W => PMap W b3 ((List.range ys.length).map fun i => (L.adr (R.getD i 0), Value.int .i64 ((i : Int) + 1))) ∧ Chg (fun b => b = b3) w4 W)
    (fun _ _ _ => False)
    (OwnFrom.and (fun s A B row hs hg hr => ⟨(hg.block b3 (Array.getElem?_eq_some_iff.1 hs.1).1 (fun e => by have := (hr b3 e.symm).1; omega)).trans hs.1, fun x hx => by
      obtain ⟨c, t, e⟩ := hs.2 x hx
      refine ⟨c, t, (hg.block _ (Array.getElem?_eq_some_iff.1 e).1 (fun k => ?_)).trans e⟩
      obtain ⟨_, o2, r2, r3⟩ := hr _ k.symm
      rw [e] at r2
      cases r2
      cases r3⟩) (ownFrom_chg (Nat.le_refl _)))
    (fun _ _ _ _ _ hs _ _ => hs)
    ⟨hp4, Chg.refl _ _⟩
    ?a1 ?assign ?body ?done (fun D c pre W _ _ h _ => h.elim)
  case assign =>
    intro l x W K hK
    gi_wp2
    exact hK
  case body =>
    rintro l pre x W ⟨hP, hC⟩ ⟨rfl, hx⟩
    rw [List.length_range] at hP
    rw [← List.getD_eq_getElem?_getD]
    have hmem : R.getD x 0 ∈ R := by rw [getD_at hx]; exact List.getElem_mem hx
    have hd := (unhide hro).2 _ hmem
    have hnew : ∀ i, i < x → R.getD i 0 ≠ R.getD x 0 := fun i hi e => by
      rw [getD_at (by omega), getD_at hx] at e
      have := (List.getElem_inj (unhide hro).1).1 e
      omega
    have hdi : ∀ i, i < x → L.dom (R.getD i 0) := fun i hi => by
      have hm : R.getD i 0 ∈ R := by rw [getD_at (by omega)]; exact List.getElem_mem _
      exact ((unhide hro).2 _ hm).2
    have hlk : lookI (L.adr (R.getD x 0)) ((List.range x).map fun i => (L.adr (R.getD i 0), Value.int .i64 ((i : Int) + 1))) 0 = none := lookI_noV _ _ _ (fun q hq e => by
      obtain ⟨i, hi, rfl⟩ := List.mem_map.1 hq
      have hi := List.mem_range.1 hi
      exact hnew i hi (((unhide HI).inj _ _ hd.2 (hdi i hi) e).symm))
    have hCs := hC.size
    have hcl : IsCells W (L.adr (R.getD x 0)) := ((unhide H4).obj _ hd.2).cells.chg hC (fun e => by
      have h1 := ((unhide HI).obj _ hd.2).lt
      have e : L.adr (R.getD x 0) = b3 := e
      omega)
    have c4 : W.cell? ⟨b4, 0, none⟩ = some (.map (some b3)) := by
      rw [Lib.cell_of_heap ((hC.block b4 (by omega) (by omega)).trans a4)]
      rfl
    have hp : L.ptr (R.getD x 0) = .pointer (some ⟨L.adr (R.getD x 0), 0, none⟩) := by unfold Lay.ptr; rw [if_neg hd.1]
    have hP3 := hP.1
    obtain ⟨j0, hj0, hsz⟩ := inf_o
    obtain ⟨W7, hup, hP7, hg7⟩ := run_update_pt (P := Try.prog) (v := .int .i64 ((x : Int) + 1)) map_und und_p hj0 hsz hP hcl hlk
    have HP7 := hide hP7
    have HG7 := hide hg7
    rw [hp]
    clear hnew hdi hlk hP hP7 hg7 hp hcl hj0 hsz
    generalize hy : R.getD x 0 = y at *
    gi_wp2
    have hg7 := unhide HG7
    refine ⟨KeepsFrom.of_grownBy hg7 (fun j e => by injection e with e; omega), fun i c f e => hg7.block i (Array.getElem?_eq_some_iff.1 e).1 (fun h => by
      have h : b3 = i := by first | exact h | exact Option.some.inj h | exact (Option.some.inj h).symm
      subst h
      rw [hP3] at e
      cases e), ?_, hC.trans ((grow_chg hg7).mono (fun c e => by injection e with e; exact e.symm))⟩
    have hlen : (List.range x ++ [x]).length = x + 1 := by simp
    rw [hlen, List.range_succ, List.map_append, List.map_cons, List.map_nil, hy]
    exact unhide HP7
  case done =>
    rintro D ys W hD rfl ⟨hP, hC⟩ hK
    rw [List.length_range] at hP
    have hCs := hC.size
    have hBW : Below b0 w W := hB4.trans (hC.below (n := b0) (fun i e => by have e : i = b3 := e; omega) (by omega))
    have HW := hide ((unhide HI).below (by rw [g0]; exact hBW))
    have HBW := hide hBW
    have HP := hide hP
    have HC := hide hC
    have HK := hide hK
    have v0 : W.cell? ⟨b0, 0, none⟩ = some (.pointer (some ⟨L.g, 0, none⟩)) := by rw [Lib.cell_of_heap ((hC.block b0 (by omega) (by omega)).trans a0)]; rfl
    have v2 := (hC.block b2 (by omega) (by omega)).trans a2
    have v4 := (hC.block b4 (by omega) (by omega)).trans a4
    have hone := (unhide HI).one
    have k3 := (unhide HW).c3
    have lrb := (unhide HI).lt L.rb (by rw [(unhide HI).tr]; simp)
    clear hP hC hK hBW hB4 a0 a2 a3 a4 kB hp4
    gi_wp2
    refine wpIn_wide.2 ?_
    have HLK : Hid (∀ V, Chg (fun b => b = b2) W V → ∀ y, (y = 0 ∨ y ∈ R) → (Instr.lookup 98 (.map (some b3)) (.pointer (L.po y)) false).run Try.prog V = .ok (.int .i64 (nidx R y)) V) := hide (fun V hV y hy => by
      have hPV := (unhide HP).chg hV (by omega) (fun q hq => fun e => by
        obtain ⟨i, hi, rfl⟩ := List.mem_map.1 hq
        have hi := List.mem_range.1 hi
        have hm : R.getD i 0 ∈ R := by rw [getD_at hi]; exact List.getElem_mem hi
        have h1 := ((unhide HI).obj _ ((unhide hro).2 _ hm).2).lt
        have e : L.adr (R.getD i 0) = b2 := e
        omega)
      rcases hy with rfl | hyR
      · exact run_lookup_nilp map_und und_p hPV (int_z V)
      · obtain ⟨hy0, hdy⟩ := (unhide hro).2 y hyR
        obtain ⟨j0, hj0, hsz⟩ := inf_o
        have hcy : IsCells V (L.adr y) := ((unhide HW).obj _ hdy).cells.chg hV (fun e => by
          have h1 := ((unhide HI).obj _ hdy).lt
          have e : L.adr y = b2 := e
          omega)
        have := run_lookup_pt (P := Try.prog) map_und und_p hj0 hsz hPV hcy (int_z V)
        rw [lookV_num (unhide HI).inj (fun z hz => ((unhide hro).2 z hz).2) hyR hy0] at this
        unfold Lay.po
        rw [if_neg hy0]
        exact this)
    have hinn : ∀ j q, j < T → q < 6 → G.root j q = 0 ∨ G.root j q ∈ R := fun j q hj hq => by
      by_cases e : G.root j q = 0
      · exact .inl e
      · exact .inr (by rw [← hR]; exact reach_root hj hq e)
    have HINN := hide hinn
    clear hinn
    obtain ⟨i0, hi, hz0, hz1, hz2⟩ : ∃ i : TypeInfo, Try.prog.info? 3 = some i ∧ i.zero = some (.int .i64 0) ∧ i.size = 1 ∧ i.bytes = 8 := ⟨_, rfl, rfl, rfl, rfl⟩
    obtain ⟨i1, ki, kz0, kz1, kz2⟩ : ∃ i : TypeInfo, Try.prog.info? 46 = some i ∧ i.zero = some (.slice none 0 0) ∧ i.size = 1 ∧ i.bytes = 24 := ⟨_, rfl, rfl, rfl, rfl⟩
    obtain ⟨i2, mi, mz0, mz1, mz2⟩ : ∃ i : TypeInfo, Try.prog.info? 2 = some i ∧ i.zero = some (.int .i64 0) ∧ i.size = 1 ∧ i.bytes = 8 := ⟨_, rfl, rfl, rfl, rfl⟩
    obtain ⟨i3, ni, nz0, nz1, nz2⟩ : ∃ i : TypeInfo, Try.prog.info? 97 = some i ∧ i.zero = some (.agg #[.int .i64 0, .slice none 0 0]) ∧ i.size = 2 ∧ i.bytes = 32 := ⟨_, rfl, rfl, rfl, rfl⟩
    have IN8 := hide (show _ ∧ _ ∧ _ ∧ _ from ⟨mi, mz0, mz1, mz2⟩)
    have IND := hide (show _ ∧ _ ∧ _ ∧ _ from ⟨ni, nz0, nz1, nz2⟩)
    clear mi mz0 mz1 mz2 ni nz0 nz1 nz2
    have INT := hide (show _ ∧ _ ∧ _ ∧ _ from ⟨hi, hz0, hz1, hz2⟩)
    have INS := hide (show _ ∧ _ ∧ _ ∧ _ from ⟨ki, kz0, kz1, kz2⟩)
    clear hi hz0 hz1 hz2 ki kz0 kz1 kz2
    go_loopw [34] (fun c wz => ∃ j : Nat, j ≤ T ∧ c = .int .i64 j ∧ Hid (∃ rv, wz.heap[b2]? = some (Obj.cells #[rv, .slice none 0 0] 56 (0, 0)) ∧ LLo W.heap.size wz rv ((List.range j).map (vrow R G))) ∧ Hid (Chg (fun b => b = b2) W wz)) (fun c _ => T - (intOf c).toNat)
    case atStart => exact ⟨0, Nat.zero_le _, rfl, hide ⟨_, v2, [], World.ownsRow_nil _ _ _ _, rfl, fun t l h => by simp at h⟩, hide (Chg.refl _ _)⟩
    case round =>
      obtain ⟨j, hj, rfl, hLo, hCz⟩ := hrel
      have hzz := (unhide hCz).size
      by_cases hlt : j < T
      · have row : ∀ q, q < 6 → wr.cell? ⟨L.rb, j * 6 + q, none⟩ = some (.pointer (L.po (G.root j q))) := fun q hq => by
          rw [← ptr_po]
          exact ((unhide hCz).cell (o := j * 6 + q) (by omega) (fun e => by have e : L.rb = b2 := e; omega)).trans ((unhide HW).root j q hlt hq).1
        have r0 := row 0 (by omega)
        rw [Nat.add_zero] at r0
        have r1 := row 1 (by omega)
        have r2 := row 2 (by omega)
        have r3 := row 3 (by omega)
        have r4 := row 4 (by omega)
        have r5 := row 5 (by omega)
        have d0 : (0 : Int) ≤ (j : Int) := by omega
        have d1 : (j : Int) < (T : Int) := by omega
        go_wp2
        clear r0 r1 r2 r3 r4 r5 row
        refine wp_gen ?_
        intro W1 hW1
        have hB1 : Below wr.heap.size wr W1 := by rw [hW1]; repeat (first | exact Below.refl _ _ | assumption | refine Below.alloc ?_ (by first | (simp; done) | (simp; omega) | omega) _ | refine Below.setCell ?_ (by first | (simp; done) | (simp; omega) | omega) _ | apply Below.drew | refine Below.trans ?_ (Below.mono (by assumption) (by first | (simp; done) | (simp; omega) | omega)))
        have hz1 := hB1.size
        clear hW1
        obtain ⟨wo, hwo⟩ : ∃ wo, wo = wr := ⟨_, rfl⟩
        subst hwo
        go_loopw [39, 9] (fun c l wz => ∃ q : Nat, q ≤ 6 ∧ c = .int .i64 q ∧ Hid (wz.ownsRow W1.heap.size 3 1 l q ((List.range q).map fun s => Value.int .i64 (nidx R (G.root j s)))) ∧ Hid (Below W1.heap.size W1 wz)) (fun c _ _ => 6 - (intOf c).toNat)
        case atStart => exact ⟨0, by omega, rfl, hide (World.ownsRow_nil _ _ _ _), hide (Below.refl _ _)⟩
        case round =>
          obtain ⟨q, hq, rfl, hOw, hBz⟩ := hrel
          have hzz2 := (unhide hBz).size
          have hBo : Below wo.heap.size wo wr := hB1.trans ((unhide hBz).mono hz1)
          by_cases hq6 : q < 6
          · have hidx : ∀ W : World, (Instr.index 74 (.agg #[.pointer (L.po (G.root j 0)), .pointer (L.po (G.root j 1)), .pointer (L.po (G.root j 2)), .pointer (L.po (G.root j 3)), .pointer (L.po (G.root j 4)), .pointer (L.po (G.root j 5))]) (.int .i64 (q : Int))).run Try.prog W = .ok (.pointer (L.po (G.root j q))) W := fun W => by
              obtain rfl | rfl | rfl | rfl | rfl | rfl : q = 0 ∨ q = 1 ∨ q = 2 ∨ q = 3 ∨ q = 4 ∨ q = 5 := by omega
              all_goals rfl
            have e0 : (0 : Int) ≤ (q : Int) := by omega
            have e1 : (q : Int) < 6 := by omega
            have hCr : Chg (fun b => b = b2) W wr := (unhide hCz).trans (Chg.of hBo)
            have hlk := unhide HLK wr hCr _ (unhide HINN j q hlt hq6)
            have c4 : wr.cell? ⟨b4, 0, none⟩ = some (.map (some b3)) := by rw [Lib.cell_of_heap ((hCr.block b4 (by omega) (by omega)).trans v4)]; rfl
            have HCR := hide hCr
            clear hCr hBo
            obtain ⟨hi, hz0, hz1', hz2⟩ := unhide INT
            go_wp2_with (at_builtin; refine wpList_append_own _ rfl (.tmp 42) (.tmp 46) _ rfl W1.heap.size 3 i0 (.int .i64 0) 1 8 Try.underlying46 hi hz0 hz1' hz2 rfl (by decide) _ _ _ rfl ((unhide hOw).alloc _) ⟨wr.heap.size, 0, none⟩ 1 1 [.int .i64 (nidx R (G.root j q))] rfl rfl ?c1 ?c2 ?c3 ?c4 ?c5 ?_)
            case c1 => exact one_newP _ _ _
            case c2 => simp [Value.oneCell']
            case c3 => simp only [maxLen]; omega
            case c4 => omega
            case c5 => simp; omega
            intro v' w5 how hgr _
            have HO' := hide how
            have HB' : Hid (Below W1.heap.size W1 w5) := hide (((unhide hBz).alloc hzz2 _).grown hgr (by simp; omega) (fun r hr => ((unhide hOw).lt r hr).1))
            clear how hgr hlk hidx c4 hi hz0 hz1' hz2
            go_wp2
            go_roundw
            case measure => simp [intOf]; omega
            case rel => exact ⟨q + 1, by omega, by go_num, hide (by rw [List.range_succ, List.map_append]; exact unhide HO'), HB'⟩
          · obtain rfl : q = 6 := by omega
            obtain ⟨rv, hrv, hLL⟩ := unhide hLo
            have hrd := RdI.of_row (t := 3) (l := vrow R G j) (by
              have := unhide hOw
              unfold vrow
              rw [List.length_map, List.length_range, List.map_map]
              exact this)
            have h6 : (vrow R G j).length = 6 := by simp [vrow]
            obtain ⟨A9, c9, hl9, hrdj⟩ := id hrd
            rw [h6] at hl9
            subst hl9
            obtain ⟨xs, ho, hxl, hx⟩ := hLL.grown (grown_below hBo none) (by cases rv.ownBlock <;> simp) (fun r e => by cases e)
            rw [List.length_map, List.length_range] at ho hxl
            have hb2 := (hBo.block b2 (by omega)).trans hrv
            have c2 : wr.cell? ⟨b2, 0, none⟩ = some rv := by rw [Lib.cell_of_heap hb2]; rfl
            obtain ⟨ki, kz0, kz1, kz2⟩ := unhide INS
            have hRD := hide hrd
            have HX := hide hx
            have HB2 := hide hb2
            have HOX := hide ho
            have HXL := hide hxl
            have HBO := hide hBo
            clear hrd hrdj hx hb2 ho hrv hLL hBo h6 hxl
            go_wp2_with (at_builtin; refine wpList_append_own _ rfl (.tmp 50) (.tmp 52) _ rfl W.heap.size 46 i1 (.slice none 0 0) 1 24 Try.underlying45 ki kz0 kz1 kz2 rfl (by decide) _ _ _ rfl ((unhide HOX).alloc _) ⟨wr.heap.size, 0, none⟩ 1 1 [.slice A9 6 c9] rfl rfl ?c1 ?c2 ?c3 ?c4 ?c5 ?_)
            case c1 => exact one_newP _ _ _
            case c2 => simp [Value.oneCell']
            case c3 => simp only [maxLen]; omega
            case c4 => omega
            case c5 => simp; omega
            intro v' w5 how hgr _
            have hlj : ((List.range j).map (vrow R G)).length = j := by simp
            have hba : Below wr.heap.size wr (wr.alloc (.cells #[.slice A9 6 c9] 46)) := by repeat (first | exact Below.refl _ _ | assumption | refine Below.alloc ?_ (by first | (simp; done) | (simp; omega) | omega) _ | refine Below.setCell ?_ (by first | (simp; done) | (simp; omega) | omega) _ | apply Below.drew | refine Below.trans ?_ (Below.mono (by assumption) (by first | (simp; done) | (simp; omega) | omega)))
            have hL5 : LLo W.heap.size w5 v' ((List.range j).map (vrow R G) ++ [vrow R G j]) := LLo.more (by rw [hlj]; exact (unhide HOX).alloc _) (by rw [hlj]; exact unhide HXL) (fun t l ht => by
              obtain ⟨u, e1, e2⟩ := unhide HX t l ht
              exact ⟨u, e1, e2.below hba⟩) (by rw [hlj]; exact how) hgr ((unhide hRD).below hba)
            have hb5 : w5.heap[b2]? = some (Obj.cells #[rv, .slice none 0 0] 56 (0, 0)) := (hgr.block b2 (by simp; omega) (fun e => by
              have h1 := ((unhide HOX).lt b2 (by first | exact e | exact e.symm)).1
              omega)).trans ((hba.block b2 (by omega)).trans (unhide HB2))
            have hz5 := hgr.size
            simp only [World.size_alloc] at hz5
            have hC5 : Chg (fun b => b = b2) W w5 := by
              have h1 : Chg (fun b => b = b2) W (wr.alloc (.cells #[.slice A9 6 c9] 46)) := ((unhide hCz).trans (Chg.of (unhide HBO))).alloc _
              exact ⟨hgr.os.trans h1.os, hgr.tape.trans h1.tape, hgr.output.trans h1.output, Nat.le_trans h1.size hgr.size, fun i hi hne => (hgr.block i (Nat.lt_of_lt_of_le hi h1.size) (fun e => by
                have h2 := ((unhide HOX).lt i (by first | exact e | exact e.symm)).1
                omega)).trans (h1.block i hi hne)⟩
            have hl5 : ∀ r, v'.ownBlock = some r → W.heap.size ≤ r := fun r hr => (how.lt r hr).1
            obtain ⟨A7, n7, c7, rfl⟩ : ∃ A n c, v' = .slice A n c := by
              rcases how.2 with ⟨e, _⟩ | ⟨g9, c9, _, e, _⟩
              · exact ⟨_, _, _, e⟩
              · exact ⟨_, _, _, e⟩
            have hL6 := hL5.grown (set_grown w5 b2 0 (.slice A7 n7 c7)) (by
              cases e : (Value.slice A7 n7 c7).ownBlock with
              | none => exact .inr rfl
              | some r => exact .inl (fun h => by
                  injection h with h
                  have := hl5 r e
                  omega)) (fun r e cur h => by
              injection e with e
              subst e
              rw [hb5] at h
              injection h with h
              injection h with _ h _
              exact absurd h (by decide))
            have c5 : w5.cell? ⟨b2, 0, none⟩ = some rv := by rw [Lib.cell_of_heap hb5]; rfl
            have f5 : w5.frozen? ⟨b2, 0, none⟩ = false := by simp [World.frozen?, hb5]
            have hst := heap_setCell_same w5 b2 0 _ _ (.slice A7 n7 c7) hb5
            have HL6 := hide hL6
            have HC5 := hide hC5
            have HST := hide hst
            clear hL5 hL6 hC5 hst hb5 how hgr hba hlj hl5 ki kz0 kz1 kz2 c2
            go_wp2
            go_roundw
            case measure => simp [intOf]; omega
            case rel =>
              refine ⟨j + 1, by omega, by go_num, hide ⟨.slice A7 n7 c7, (unhide HST).trans (by simp), ?_⟩, hide ((unhide HC5).set (.inr rfl) _)⟩
              rw [List.range_succ, List.map_append]
              exact unhide HL6
      · obtain rfl : T = j := by omega
        obtain ⟨rv, hrv, hLL⟩ := unhide hLo
        have hz0 := (unhide hCz).size
        have w0 : wr.cell? ⟨b0, 0, none⟩ = some (.pointer (some ⟨L.g, 0, none⟩)) := ((unhide hCz).cell (o := 0) (by omega) (by omega)).trans v0
        have HLL := hide hLL
        have w4' := ((unhide hCz).block b4 (by omega) (by omega)).trans v4
        have hDw : wr.heap[D]? = some (.deferred (some [])) := ((unhide hCz).block D (Array.getElem?_eq_some_iff.1 (unhide HK)).1 (fun e => by
          have e : D = b2 := e
          omega)).trans (unhide HK)
        clear hLL hLo
        go_wp2
        gi_wp2
        refine ⟨trivial, ?_⟩
        refine (callsIn_wide.2 (all_any _ ⟨_, rfl⟩ _)).mono ?_
        rintro e w6 ⟨rfl, hE⟩
        have hi6 := (MapKept.heap_alloc wr (.cells #[.pointer (some ⟨L.g, 0, none⟩)] 31)).1
        have hB6 : Below wr.heap.size wr w6 := by rw [← hE]; repeat (first | exact Below.refl _ _ | assumption | refine Below.alloc ?_ (by first | (simp; done) | (simp; omega) | omega) _ | refine Below.setCell ?_ (by first | (simp; done) | (simp; omega) | omega) _ | apply Below.drew | refine Below.trans ?_ (Below.mono (by assumption) (by first | (simp; done) | (simp; omega) | omega)))
        rw [hE] at hi6
        have hz6 : wr.heap.size < w6.heap.size := (Array.getElem?_eq_some_iff.1 hi6).1
        clear hE
        have kB6 : w6.cell? ⟨wr.heap.size, 0, none⟩ = some (.pointer (some ⟨L.g, 0, none⟩)) := by rw [Lib.cell_of_heap hi6]; rfl
        have hC6 : Chg (fun b => b = b2) W w6 := (unhide hCz).trans (Chg.of hB6)
        have H6 := hide ((unhide HW).keep hC6 (fun b hb e => by
          have h1 := (unhide HI).lt b hb
          have e : b = b2 := e
          omega) (fun b hb e => by
          have h1 := (unhide HI).shlt b hb
          have e : b.block = b2 := e
          omega))
        have hs6 := all_stops 7 (by omega) (unhide H6) hnn h8 wr.heap.size kB6
        rw [hR] at hs6
        have h62 := (hB6.block b2 (by omega)).trans hrv
        have h64 := (hB6.block b4 (by omega)).trans w4'
        have h60 : w6.cell? ⟨b0, 0, none⟩ = some (.pointer (some ⟨L.g, 0, none⟩)) := (hB6.cell (p := ⟨b0, 0, none⟩) (block_lt w0)).trans w0
        have hD6 := (hB6.block D (Array.getElem?_eq_some_iff.1 hDw).1).trans hDw
        have HL6 := hide ((unhide HLL).grown (grown_below hB6 none) (by cases rv.ownBlock <;> simp) (fun r e => by cases e))
        have HC6 := hide hC6
        clear hi6 hB6 kB6 hC6 hrv w0 w4' hDw HLL
        gi_wp2
        refine wpIn_act ?_
        intro act hact
        refine wpIn_rangeFunc_OH rfl (by omega) (gf := 66) (lb := #[.pointer (some ⟨wr.heap.size, 0, none⟩)]) (by rw [hact]; rfl) trivial (enters_of Try.func66 (by kernel_rfl) rfl)
          hs6 KpG.trans (fun W l o o' _ hl ho _ => KpG.put W l o o' hl ho) (Below.refl _ _) (fun _ => rfl)
          (fun ys V => (∃ nv, V.heap[b2]? = some (Obj.cells #[rv, nv] 56 (0, 0)) ∧ NLo w6.heap.size V nv (ys.map fun i => vnode S R G (R.getD i 0))) ∧ Chg (fun b => b = b2) w6 V)
          (fun _ _ _ => False)
          (OwnFrom.and (fun s A B row hs hg hr => by
            obtain ⟨nv, h1, h2⟩ := hs
            refine ⟨nv, (hg.block b2 (Array.getElem?_eq_some_iff.1 h1).1 (fun e => by have := (hr b2 e.symm).1; omega)).trans h1, h2.grown hg ?_ (fun r e cur h => ?_)⟩
            · cases e : nv.ownBlock with
              | none => exact .inr rfl
              | some r =>
                refine .inl (fun k => ?_)
                obtain ⟨xs, ho, -, -⟩ := h2
                obtain ⟨c, hc⟩ := own_type ho r e
                obtain ⟨_, o2, r2, r3⟩ := hr r k.symm
                rw [hc] at r2
                cases r2
                cases r3
            · obtain ⟨_, o2, r2, r3⟩ := hr r e
              rw [h] at r2
              cases r2
              cases r3) (ownFrom_chg (Nat.le_refl _)))
          (fun _ _ _ _ _ hs _ _ => hs)
          ⟨⟨_, h62, [], World.ownsRow_nil _ _ _ _, rfl, fun t l h => by simp at h⟩, Chg.refl _ _⟩
          (fun x a' V => ∃ bo, a' = { tmps := ((act.tmps.setIfInBounds 58 (.int .i64 ((x : Int) + 1))).setIfInBounds 59 (.pointer (L.po (R.getD x 0)))).setIfInBounds 13 (.pointer (some ⟨bo, 0, none⟩)), defers := [] } ∧ V.heap[bo]? = some (Obj.cells #[.pointer (L.po (R.getD x 0))] 71 (0, 0)) ∧ w6.heap.size ≤ bo)
          (fun x a' _ A B row hs hg hr => by
            obtain ⟨bo, h1, h2, h3⟩ := hs
            refine ⟨bo, h1, (hg.block bo (Array.getElem?_eq_some_iff.1 h2).1 (fun e => ?_)).trans h2, h3⟩
            obtain ⟨_, o2, r2, r3⟩ := hr bo e.symm
            rw [h2] at r2
            cases r2
            cases r3)
          ?assign ?body ?done (fun D c pre W _ _ h _ => h.elim)
        case assign =>
          rintro l pre x V K ⟨⟨nv, hn1, hn2⟩, hV⟩ ⟨rfl, hx⟩ hK
          rw [ptr_po]
          subst hact
          have hk1 := fun a' W' h1 h2 h3 (h4 : ∃ bo, a' = _ ∧ W'.heap[bo]? = _ ∧ w6.heap.size ≤ bo) => hK a' W' h1 h2 h3 h4
          clear hK
          have hVs := hV.size
          have hbA : Below V.heap.size V (V.alloc (.cells #[.pointer (L.po (R.getD x 0))] 71)) := by repeat (first | exact Below.refl _ _ | assumption | refine Below.alloc ?_ (by first | (simp; done) | (simp; omega) | omega) _ | refine Below.setCell ?_ (by first | (simp; done) | (simp; omega) | omega) _ | apply Below.drew | refine Below.trans ?_ (Below.mono (by assumption) (by first | (simp; done) | (simp; omega) | omega)))
          have hcA := (MapKept.heap_alloc V (.cells #[.pointer (L.po (R.getD x 0))] 71)).1
          have hnA := hn2.grown (grown_below hbA none) (by cases nv.ownBlock <;> simp) (fun r e => by cases e)
          have hbb := (hbA.block b2 (Array.getElem?_eq_some_iff.1 hn1).1).trans hn1
          generalize L.po (R.getD x 0) = py at *
          gi_wp2
          generalize hVa : V.alloc (.cells #[.pointer py] 71) = Va at *
          have hcV : Chg (fun b => b = b2) w6 Va := hV.trans (Chg.of hbA)
          have hkf : KeepsFrom w6.heap.size V Va := keepsFrom_below hbA _
          have hkp : KpG V Va := KpG.below hbA
          generalize V.heap.size = bo at *
          exact hk1 _ _ hkf hkp ⟨⟨nv, hbb, hnA⟩, hcV⟩ ⟨bo, rfl, hcA, hVs⟩
        case body =>
          rintro l pre x a' V hl hr ⟨⟨nv, hn1, hn2⟩, hV⟩ ⟨bo, rfl, hbo, hbo1⟩ ⟨rfl, hx⟩
          subst hact
          simp only [List.setIfInBounds_toArray, List.set_cons_zero, List.set_cons_succ]
          have hVs := hV.size
          have hmem : R.getD x 0 ∈ R := by rw [getD_at hx]; exact List.getElem_mem hx
          have hd := (unhide hro).2 _ hmem
          have HV := hide ((unhide H6).keep hV (fun b hb e => by
            have h1 := (unhide HI).lt b hb
            have e : b = b2 := e
            omega) (fun b hb e => by
            have h1 := (unhide HI).shlt b hb
            have e : b.block = b2 := e
            omega))
          generalize hy : R.getD x 0 = y at *
          have hO := (unhide HV).obj y hd.2
          have hp : L.po y = some ⟨L.adr y, 0, none⟩ := by unfold Lay.po; rw [if_neg hd.1]
          rw [hp] at hbo ⊢
          have HHY := hide hy
          have HN1 := hide hn1
          have HN2 := hide hn2
          have HVC := hide hV
          have t1 : V.cell? ⟨bo, 0, none⟩ = some (.pointer (some ⟨L.adr y, 0, none⟩)) := by rw [Lib.cell_of_heap hbo]; rfl
          have t0 : V.cell? ⟨b0, 0, none⟩ = some (.pointer (some ⟨L.g, 0, none⟩)) := (hV.cell (o := 0) (block_lt h60) (fun e => by
            have e : b0 = b2 := e
            omega)).trans h60
          have o0 := hO.c0
          have o1 := hO.c1
          have o2 := hO.c2
          have k2 := (unhide HV).c2
          have hlen := (unhide HV).ok.tab
          have hsh := (unhide HV).ok.sh y hO.num.1 hO.num.2
          have hkS := hlen.2.2 _ hsh
          obtain ⟨gs, os, hsA, hgl, hcs⟩ := (unhide HV).shp (by omega)
          have hst := hcs _ hsh
          rw [hsA] at k2
          clear hy hn1 hn2 hV hcs hO
          have d0 : (0 : Int) ≤ (G.sh y : Int) := by omega
          have d1 : (G.sh y : Int) < (len : Int) := by omega
          generalize hne : S (G.sh y) = st at *
          have HNE := hide hne
          clear hne
          gi_wp2
          have hb1 : Below V.heap.size V (V.alloc (.cells #[.int .i64 (G.sh y), .slice none 0 0] 97)) := by repeat (first | exact Below.refl _ _ | assumption | refine Below.alloc ?_ (by first | (simp; done) | (simp; omega) | omega) _ | refine Below.setCell ?_ (by first | (simp; done) | (simp; omega) | omega) _ | apply Below.drew | refine Below.trans ?_ (Below.mono (by assumption) (by first | (simp; done) | (simp; omega) | omega)))
          have hcn := (MapKept.heap_alloc V (.cells #[.int .i64 (G.sh y), .slice none 0 0] 97)).1
          generalize hV1 : V.alloc (.cells #[.int .i64 (G.sh y), .slice none 0 0] 97) = V1 at *
          clear hV1
          have hz1 : V.heap.size < V1.heap.size := (Array.getElem?_eq_some_iff.1 hcn).1
          have up : ∀ {p : Addr} {v : Value}, V.cell? p = some v → ∀ s : Later V1, s.val.cell? p = some v := fun {p v} h => Later.cell (Nat.lt_trans (block_lt h) hz1) ((hb1.cell (block_lt h)).trans h)
          have u0 := up t0
          have u1 := up t1
          have u2 := up o0
          have u3 := up k2
          have u4 := up hst
          clear up
          refine wpIn_region_head_later 11 V1 (by kernel_rfl) (by kernel_rfl) (by rfl) (by rintro ⟨_, _, h⟩; exact h) (by repeat (first | exact Below.refl _ _ | assumption | refine Below.alloc ?_ (by first | (simp; done) | (simp; omega) | omega) _ | refine Below.setCell ?_ (by first | (simp; done) | (simp; omega) | omega) _ | apply Below.drew | refine Below.trans ?_ (Below.mono (by assumption) (by first | (simp; done) | (simp; omega) | omega)))) ?_; simp only [List.take_succ_cons, List.take_zero]; (repeat (first | go_big_quiet_skip | (go_big_quiet_want; (first | ((fail); go_big_quiet_on; simp only [Act.put, List.setIfInBounds_toArray, List.set_cons_zero, List.set_cons_succ]) | (go_big_quiet_op; (first | go_big_quiet_on | go_big_quiet_call ((fail)))))))); refine wpQuiet_nil ?_; intro U hU; simp only [List.drop_succ_cons, List.drop_zero]
          clear u0 u1 u2 u3 u4
          go_wp2_with fail
          refine (allF_any st U).mono ?_
          rintro e V2 ⟨rfl, hE2⟩
          have hi2 := (MapKept.heap_alloc U (.cells #[.string st] 65)).1
          have hB2 : Below U.heap.size U V2 := by rw [← hE2]; repeat (first | exact Below.refl _ _ | assumption | refine Below.alloc ?_ (by first | (simp; done) | (simp; omega) | omega) _ | refine Below.setCell ?_ (by first | (simp; done) | (simp; omega) | omega) _ | apply Below.drew | refine Below.trans ?_ (Below.mono (by assumption) (by first | (simp; done) | (simp; omega) | omega)))
          rw [hE2] at hi2
          clear hE2
          have hBV : Below V1.heap.size V1 V2 := hU.trans (hB2.mono hU.size)
          have hcn2 := (hBV.block V.heap.size hz1).trans hcn
          have hBVV : Below V.heap.size V V2 := hb1.trans (hBV.mono (by omega))
          have HBVV := hide hBVV
          have hlU := hU.size
          have hl2 : U.heap.size < V2.heap.size := (Array.getElem?_eq_some_iff.1 hi2).1
          obtain ⟨rl, hrl⟩ := hr
          have hrl2 := (hBVV.block l (Array.getElem?_eq_some_iff.1 hrl).1).trans hrl
          have hsF := (allF_stops 5 (by omega) st hkS U.heap.size V2 hi2).inRound l
          have q1 : V2.cell? ⟨bo, 0, none⟩ = some (.pointer (some ⟨L.adr y, 0, none⟩)) := (hBVV.cell (p := ⟨bo, 0, none⟩) (block_lt t1)).trans t1
          have q2 : V2.cell? ⟨L.adr y, 2, none⟩ = some (.slice (L.iA y) st.size (L.ic y)) := (hBVV.cell (p := ⟨L.adr y, 2, none⟩) (block_lt o2)).trans o2
          have q3 : V2.cell? ⟨L.adr y, 1, none⟩ = some (.slice (L.hA y) st.size (L.hc y)) := (hBVV.cell (p := ⟨L.adr y, 1, none⟩) (block_lt o1)).trans o1
          have HUU := hide hU
          clear hU hB2 hBV hcn hb1 t1 t0 o0 o1 o2 k2 hst hrl hBVV
          go_wp2_with fail
          (try gi_wp2)
          refine wpIn_act ?_
          intro act2 hact2
          have hkS2 := hide hkS
          have hOb := (unhide HV).obj y hd.2
          have hVz : V.heap.size < V2.heap.size := by have := (unhide HBVV).size; omega
          refine wpIn_rangeFunc_ownN (l₀ := l) rfl hrl2 (by omega) (gf := 74) (lb := #[.pointer (some ⟨U.heap.size, 0, none⟩)]) (by rw [hact2]; rfl) trivial (enters_of Try.func74 (by kernel_rfl) rfl)
            hsF KpS.trans (fun W l o o' _ hl ho hw => KpS.put W l o o' hl ho hw) (Below.refl _ _) (fun _ => rfl)
            (fun ys U' => (∃ nf, U'.heap[V.heap.size]? = some (Obj.cells #[.int .i64 (G.sh y), nf] 97 (0, 0)) ∧ U'.ownsRow V2.heap.size 2 1 nf ys.length (ys.map fun f => Value.int .i64 (if kd st f.val = 0 then nidx R (G.held S y f.val) else G.ints S y f.val))) ∧ Chg (fun b => b = V.heap.size) V2 U')
            (fun _ _ _ => False)
            (OwnFrom.and (fun s A B row hs hg hr => by
              obtain ⟨nf, h1, h2⟩ := hs
              refine ⟨nf, (hg.block _ (Array.getElem?_eq_some_iff.1 h1).1 (fun e => by have := (hr _ e.symm).1; omega)).trans h1, h2.kept hg ?_⟩
              cases e : nf.ownBlock with
              | none => exact .inl rfl
              | some r =>
                refine .inr (fun k => ?_)
                obtain ⟨c, hc⟩ := own_type h2 r e
                obtain ⟨_, o2, r2, r3⟩ := hr r (by first | exact k | exact k.symm)
                rw [hc] at r2
                cases r2
                cases r3) (ownFrom_chg (Nat.le_refl _)))
            (fun _ _ _ _ _ hs _ _ => hs)
            ⟨⟨_, hcn2, World.ownsRow_nil _ _ _ _⟩, Chg.refl _ _⟩
            (fun f a' _ => a' = { tmps := ((((act2.tmps.setIfInBounds 77 (.int .i64 (f.val : Int))).setIfInBounds 78 (.int .i64 (kd st f.val))).setIfInBounds 15 (.int .i64 (f.val : Int))).setIfInBounds 16 (.int .i64 (kd st f.val))), defers := [] })
            (fun _ _ _ _ _ _ hs _ _ => hs)
            ?assign2 ?body2 ?done2 (fun c pre W _ h => h.elim)
          case assign2 =>
            rintro l2 pre f U' K hI hK
            subst hact2
            gi_wp2
            exact hK _ _ (KeepsFrom.refl _ _) ⟨KeepsWalks.refl _, fun _ _ _ _ => rfl⟩ hI rfl
          case body2 =>
            rintro l2 pre f a' U' hl3 hr3 ⟨⟨nf, hnf, how⟩, hUC⟩ rfl hlen2
            subst hact2
            simp only [List.setIfInBounds_toArray, List.set_cons_zero, List.set_cons_succ]
            have hfz := f.isLt
            have hb0 : bo < V.heap.size := (Array.getElem?_eq_some_iff.1 hbo).1
            have hbl : ∀ b, b < V.heap.size → U'.heap[b]? = V.heap[b]? := fun b hb => (hUC.block b (by omega) (fun e => by
              have e : b = V.heap.size := e
              omega)).trans ((unhide HBVV).block b hb)
            have tc : ∀ {b o : Nat} {v : Value}, V.cell? ⟨b, o, none⟩ = some v → U'.cell? ⟨b, o, none⟩ = some v := fun {b o v} h => (World.cell?_of_block (a := ⟨b, o, none⟩) (hbl b (block_lt h))).trans h
            have hpos := hOb.pos (by rw [unhide HNE]; omega)
            have t1 : U'.cell? ⟨bo, 0, none⟩ = some (.pointer (some ⟨L.adr y, 0, none⟩)) := tc (by rw [Lib.cell_of_heap hbo]; rfl)
            have t2 := tc hOb.c2
            have t3 := tc hOb.c1
            have t4 := tc (hOb.ints f.val (by rw [unhide HNE]; exact hfz)).1
            have t5 := tc (hOb.held f.val (by rw [unhide HNE]; exact hfz)).1
            rw [ptr_po] at t5
            rw [hpos.2.1, unhide HNE] at t2
            rw [hpos.1, unhide HNE] at t3
            have hC2 : Chg (fun b => b = b2) W V2 := ((unhide HC6).trans (unhide HVC)).trans (Chg.of (unhide HBVV))
            have hz2 := (unhide HC6).size
            have hCU : Chg (fun b => b = b2) W U' := ⟨hUC.os.trans hC2.os, hUC.tape.trans hC2.tape, hUC.output.trans hC2.output, Nat.le_trans hC2.size hUC.size, fun i hi hne => (hUC.block i (Nat.lt_of_lt_of_le hi hC2.size) (fun e => by
              have e : i = V.heap.size := e
              omega)).trans (hC2.block i hi hne)⟩
            have nb : U'.cell? ⟨V.heap.size, 1, none⟩ = some nf := by rw [Lib.cell_of_heap hnf]; rfl
            have t6 : U'.cell? ⟨b4, 0, none⟩ = some (.map (some b3)) := (hCU.cell (o := 0) (by omega) (fun e => by
              have e : b4 = b2 := e
              omega)).trans (by rw [Lib.cell_of_heap v4]; rfl)
            have d0 : (0 : Int) ≤ (f.val : Int) := by omega
            have d1 : (f.val : Int) < (st.size : Int) := by omega
            have HOW := hide how
            have HNF := hide hnf
            have HUC := hide hUC
            have HCU := hide hCU
            clear how hnf hUC hCU hC2 hpos q1 q2 q3 hcn2
            by_cases hk : kd st f.val = 0
            · have HKD := hide hk
              rw [hk]
              have hyy : G.held S y f.val = 0 ∨ G.held S y f.val ∈ R := by
                by_cases e : G.held S y f.val = 0
                · exact .inl e
                · refine .inr ?_
                  have hm := hmem
                  rw [← hR] at hm ⊢
                  exact reach_held (unhide HI).isIn hm (by rw [unhide HNE]; exact hfz) e
              have HYY := hide hyy
              clear hk hyy
              gi_wp2
              have e0 := Later.cell (block_lt t6) t6
              have e1 := Later.cell (block_lt t1) t1
              have e2 := Later.cell (block_lt t3) t3
              have e3 := Later.cell (block_lt t5) t5
              have e4 : ∀ s : Later U', (Instr.lookup 98 (.map (some b3)) (.pointer (L.po (G.held S y f.val))) false).run Try.prog s.val = .ok (.int .i64 (nidx R (G.held S y f.val))) s.val := fun s => unhide HLK s.val ((unhide HCU).trans (Chg.of s.ok)) _ (unhide HYY)
              have e5 := e4 ⟨U'.drew, (Below.refl _ _).drew⟩
              refine wpIn_region_side_later [0, 0, 0, 0, 0, 0, 0, 0, 1, 2] 9 U' (by kernel_rfl) (by kernel_rfl) (by rfl) (by rintro ⟨_, _, h⟩; exact h) (by repeat (first | exact Below.refl _ _ | assumption | refine Below.alloc ?_ (by first | (simp; done) | (simp; omega) | omega) _ | refine Below.setCell ?_ (by first | (simp; done) | (simp; omega) | omega) _ | apply Below.drew | refine Below.trans ?_ (Below.mono (by assumption) (by first | (simp; done) | (simp; omega) | omega)))) ?_; simp only [kblk, List.map_cons, List.map_nil, Nat.reduceBNe, diesOps_f, diesOps_t, diesOps_nil, bne_self_eq_false]; (repeat (first | go_big_quiet_skip | (go_big_quiet_want; (first | ((fail); go_big_quiet_on; simp only [Act.put, List.setIfInBounds_toArray, List.set_cons_zero, List.set_cons_succ]) | (go_big_quiet_op; (first | go_big_quiet_on | go_big_quiet_call ((fail)))))))); refine wpQuiet_nil ?_; rw [show sideIdx [0, 0, 0, 0, 0, 0, 0, 0, 1, 2] 9 = [8] from by decide]; simp only [List.filterMap_cons, List.filterMap_nil, List.getElem?_cons_zero, List.getElem?_cons_succ]; (try simp only [applyP, List.nil_append, List.cons_append, List.foldl_cons, List.foldl_nil, Act.put, List.setIfInBounds_toArray, List.set_cons_zero, List.set_cons_succ]); unfold sideWp Oper.wpV; (try simp only [applyP, List.nil_append, List.cons_append, List.foldl_cons, List.foldl_nil, Act.put, List.setIfInBounds_toArray, List.set_cons_zero, List.set_cons_succ]); go_simp
              refine ⟨(Below.refl _ _).drew, ?_⟩
              unfold sideWp; simp only [applyP, List.nil_append, List.cons_append, List.foldl_cons, List.foldl_nil, Act.put, List.setIfInBounds_toArray, List.set_cons_zero, List.set_cons_succ, List.drop_succ_cons, List.drop_zero]
              clear e0 e1 e2 e3 e4 e5 t1 t2 t3 t4 t5 t6
              go_wp2_with fail
              have nbd : U'.drew.cell? ⟨V.heap.size, 1, none⟩ = some nf := by rw [World.cell?_drew]; exact nb
              have HNFD : Hid (U'.drew.heap[V.heap.size]? = some (Obj.cells #[.int .i64 (G.sh y), nf] 97 (0, 0))) := hide (unhide HNF)
              have HOWD := hide ((unhide HOW).kept (grown_below ((Below.refl _ U').drew) none) (by cases nf.ownBlock <;> simp))
              have HUCD := hide (unhide HUC).drew
              have hkD : KeepsOthers U' U'.drew := KeepsOthers.drew U'
              have hBD : ∀ i : Nat, U'.drew.heap[i]? = U'.heap[i]? := fun _ => rfl
              have HKDD := hide hkD
              have HBDD := hide hBD
              clear hkD hBD nb
              generalize U'.drew = Ud at *
              obtain ⟨mi, mz0, mz1, mz2⟩ := unhide IN8
              have hl8 := (unhide hkS2).1
              gi_wp2_with (gi_at_builtin; refine wpListIn_append_own _ rfl (.tmp 98) (.tmp 100) _ rfl V2.heap.size 2 i2 (.int .i64 0) 1 8 Try.underlying89 mi mz0 mz1 mz2 rfl (by decide) _ _ _ rfl ((unhide HOWD).alloc _) ⟨Ud.heap.size, 0, none⟩ 1 1 [.int .i64 (nidx R (G.held S y f.val))] rfl rfl ?c1 ?c2 ?c3 ?c4 ?c5 ?_)
              case c1 => exact one_newP _ _ _
              case c2 => simp [Value.oneCell']
              case c3 => simp only [maxLen]; omega
              case c4 => omega
              case c5 => have := (unhide HUCD).size; simp; omega
              intro v' w5 how2 hgr _
              have hfin := view_step (V2 := V2) (bn := V.heap.size) (Bs := U.heap.size) (sh := .int .i64 (G.sh y)) (x := .int .i64 (nidx R (G.held S y f.val))) (xs := pre.map fun f => Value.int .i64 (if kd st f.val = 0 then nidx R (G.held S y f.val) else G.ints S y f.val)) (unhide HNFD) (unhide HOWD) (unhide HUCD) hVz (by omega) hl2 how2 hgr
              obtain ⟨A7, n7, c7, rfl⟩ : ∃ A n c, v' = .slice A n c := by
                rcases how2.2 with ⟨e, _⟩ | ⟨g9, c9, _, e, _⟩
                · exact ⟨_, _, _, e⟩
                · exact ⟨_, _, _, e⟩
              have HFIN := hide hfin
              have nb5 : w5.cell? ⟨V.heap.size, 1, none⟩ = some nf := by rw [Lib.cell_of_heap hfin.1]; rfl
              have nf5 : w5.frozen? ⟨V.heap.size, 1, none⟩ = false := by simp [World.frozen?, hfin.1]
              clear hfin how2 hgr mi mz0 mz1 mz2
              gi_wp2
              obtain ⟨-, g1, g2, g3, g4, g5⟩ := unhide HFIN
              refine ⟨((unhide HKDD).from _).trans g1, KpS.trans ⟨(unhide HKDD).walks, fun c t f e => unhide HBDD _⟩ g2, ⟨_, g3, ?_⟩, g5⟩
              rw [List.length_append, List.map_append]
              simp only [List.map_cons, List.map_nil, List.length_cons, List.length_nil]
              rw [if_pos (unhide HKD)]
              exact g4
            · have HKD := hide hk
              have hkb : (kd st f.val == 0) = false := by simpa using hk
              clear hk
              obtain ⟨mi, mz0, mz1, mz2⟩ := unhide IN8
              have hl8 := (unhide hkS2).1
              gi_wp2_with (gi_at_builtin; refine wpListIn_append_own _ rfl (.tmp 98) (.tmp 100) _ rfl V2.heap.size 2 i2 (.int .i64 0) 1 8 Try.underlying89 mi mz0 mz1 mz2 rfl (by decide) _ _ _ rfl ((unhide HOW).alloc _) ⟨U'.heap.size, 0, none⟩ 1 1 [.int .i64 (G.ints S y f.val)] rfl rfl ?c1 ?c2 ?c3 ?c4 ?c5 ?_)
              case c1 => exact one_newP _ _ _
              case c2 => simp [Value.oneCell']
              case c3 => simp only [maxLen]; omega
              case c4 => omega
              case c5 => have := (unhide HUC).size; simp; omega
              intro v' w5 how2 hgr _
              have hfin := view_step (V2 := V2) (bn := V.heap.size) (Bs := U.heap.size) (sh := .int .i64 (G.sh y)) (x := .int .i64 (G.ints S y f.val)) (xs := pre.map fun f => Value.int .i64 (if kd st f.val = 0 then nidx R (G.held S y f.val) else G.ints S y f.val)) (unhide HNF) (unhide HOW) (unhide HUC) hVz (by omega) hl2 how2 hgr
              obtain ⟨A7, n7, c7, rfl⟩ : ∃ A n c, v' = .slice A n c := by
                rcases how2.2 with ⟨e, _⟩ | ⟨g9, c9, _, e, _⟩
                · exact ⟨_, _, _, e⟩
                · exact ⟨_, _, _, e⟩
              have HFIN := hide hfin
              have nb5 : w5.cell? ⟨V.heap.size, 1, none⟩ = some nf := by rw [Lib.cell_of_heap hfin.1]; rfl
              have nf5 : w5.frozen? ⟨V.heap.size, 1, none⟩ = false := by simp [World.frozen?, hfin.1]
              clear hfin how2 hgr mi mz0 mz1 mz2
              gi_wp2
              obtain ⟨-, g1, g2, g3, g4, g5⟩ := unhide HFIN
              refine ⟨g1, g2, ⟨_, g3, ?_⟩, g5⟩
              rw [List.length_append, List.map_append]
              simp only [List.map_cons, List.map_nil, List.length_cons, List.length_nil]
              rw [if_neg (unhide HKD)]
              exact g4
          case done2 =>
            rintro xs U' rfl ⟨⟨nf, hnf, how⟩, hUC⟩
            subst hact2
            have hVU : Below V.heap.size V U' := (unhide HBVV).trans (hUC.below (n := V.heap.size) (fun i e => by
              have e : i = V.heap.size := e
              omega) (by omega))
            have hl8 : (vnode S R G y).2.length = st.size := by simp [vnode, unhide HNE]
            have hrd : RdI 2 U' nf (vnode S R G y).2 := RdI.of_row (base := V2.heap.size) (by
              rw [List.length_finRange, fin_map st.size (fun f => Value.int .i64 (if kd st f = 0 then nidx R (G.held S y f) else G.ints S y f))] at how
              rw [hl8]
              unfold vnode
              rw [unhide HNE, List.map_map]
              exact how)
            obtain ⟨A8, c8, hn8, hrdj⟩ := id hrd
            rw [hl8] at hn8
            subst hn8
            obtain ⟨xs, ho, hxl, hx3⟩ := (unhide HN2).grown (grown_below hVU none) (by cases nv.ownBlock <;> simp) (fun r e => by cases e)
            rw [List.length_map, List.length_range] at ho hxl
            have lb2 := (Array.getElem?_eq_some_iff.1 (unhide HN1)).1
            have hb2 := (hVU.block b2 lb2).trans (unhide HN1)
            have c2 : U'.cell? ⟨b2, 1, none⟩ = some nv := by rw [Lib.cell_of_heap hb2]; rfl
            have c0' : U'.cell? ⟨V.heap.size, 0, none⟩ = some (.int .i64 (G.sh y)) := by rw [Lib.cell_of_heap hnf]; rfl
            have c1' : U'.cell? ⟨V.heap.size, 1, none⟩ = some (.slice A8 st.size c8) := by rw [Lib.cell_of_heap hnf]; rfl
            have HRD := hide hrd
            have HX3 := hide hx3
            have HB2 := hide hb2
            have HOX := hide ho
            have HXL := hide hxl
            have HVU := hide hVU
            have hUz := hVU.size
            have hxn : x ≤ 1000000 := by omega
            clear hrd hrdj hx3 hb2 ho hVU hl8 hxl how hnf hUC q1 q2 q3
            obtain ⟨ni, nz0, nz1, nz2⟩ := unhide IND
            gi_wp2_with (gi_at_builtin; refine wpListIn_append_own _ rfl (.tmp 104) (.tmp 106) _ rfl w6.heap.size 97 i3 (.agg #[.int .i64 0, .slice none 0 0]) 2 32 Try.underlying54 ni nz0 nz1 nz2 rfl (by decide) _ _ _ rfl ((unhide HOX).alloc _) ⟨U'.heap.size, 0, none⟩ 1 1 [.int .i64 (G.sh y), .slice A8 st.size c8] rfl rfl ?c1 ?c2 ?c3 ?c4 ?c5 ?_)
            case c1 => exact new_cellsV _ _ _
            case c2 => simp [Value.oneCell']
            case c3 => simp only [maxLen]; omega
            case c4 => omega
            case c5 => simp; omega
            intro v' w5 how2 hgr _
            have hlx : ((List.range x).map fun i => vnode S R G (R.getD i 0)).length = x := by simp
            have hba : Below U'.heap.size U' (U'.alloc (.cells #[.int .i64 (G.sh y), .slice A8 st.size c8] 97)) := by repeat (first | exact Below.refl _ _ | assumption | refine Below.alloc ?_ (by first | (simp; done) | (simp; omega) | omega) _ | refine Below.setCell ?_ (by first | (simp; done) | (simp; omega) | omega) _ | apply Below.drew | refine Below.trans ?_ (Below.mono (by assumption) (by first | (simp; done) | (simp; omega) | omega)))
            have hL5 : NLo w6.heap.size w5 v' (((List.range x).map fun i => vnode S R G (R.getD i 0)) ++ [vnode S R G y]) := NLo.more (by rw [hlx]; exact (unhide HOX).alloc _) (by rw [hlx]; exact unhide HXL) (fun t p ht => by
              obtain ⟨e0, u, e1, e2⟩ := unhide HX3 t p ht
              exact ⟨e0, u, e1, e2.below hba⟩) (by rw [hlx]; exact how2) hgr ((unhide HRD).below hba)
            have hown : ∀ r, nv.ownBlock = some r → w6.heap.size ≤ r := fun r hr => ((unhide HOX).lt r hr).1
            have hb5 : w5.heap[b2]? = some (Obj.cells #[rv, nv] 56 (0, 0)) := (hgr.block b2 (by simp; omega) (fun e => by
              have h1 := hown b2 (by first | exact e | exact e.symm)
              omega)).trans ((hba.block b2 (by omega)).trans (unhide HB2))
            have hz5 := hgr.size
            simp only [World.size_alloc] at hz5
            have hC5 : Chg (fun b => b = b2) w6 w5 := by
              have h1 : Chg (fun b => b = b2) w6 (U'.alloc (.cells #[.int .i64 (G.sh y), .slice A8 st.size c8] 97)) := ((unhide HVC).trans (Chg.of (unhide HVU))).alloc _
              exact ⟨hgr.os.trans h1.os, hgr.tape.trans h1.tape, hgr.output.trans h1.output, Nat.le_trans h1.size hgr.size, fun i hi hne => (hgr.block i (Nat.lt_of_lt_of_le hi h1.size) (fun e => by
                have h2 := hown i (by first | exact e | exact e.symm)
                omega)).trans (h1.block i hi hne)⟩
            have hty : ∀ r, nv.ownBlock = some r → ∃ cur, (U'.alloc (.cells #[.int .i64 (G.sh y), .slice A8 st.size c8] 97)).heap[r]? = some (Obj.cells cur 97 (0, 0)) := fun r hr => own_type ((unhide HOX).alloc _) r hr
            have hkf : KeepsFrom w6.heap.size V (w5.setCell ⟨b2, 1, none⟩ v') := (keepsFrom_below (unhide HVU) _).trans ((((KeepsOthers.alloc U' _).trans (KeepsOthers.of_grownBy hgr (fun j o hj ho' => by
              obtain ⟨cur, hc⟩ := hty j hj
              rw [hc] at ho'
              injection ho' with ho'
              rw [← ho']
              rfl))).trans (KeepsOthers.setCell _ _ _)).from _)
            have hkg : KpG V (w5.setCell ⟨b2, 1, none⟩ v') := fun i c f e => by
              have hi := (Array.getElem?_eq_some_iff.1 e).1
              have e1 := ((unhide HVU).block i hi).trans e
              have e2 := (hba.block i (by omega)).trans e1
              have e3 := (hgr.block i (by simp; omega) (fun k => by
                obtain ⟨cur, hc⟩ := hty i (by first | exact k | exact k.symm)
                rw [hc] at e2
                injection e2 with e2
                injection e2 with _ e2 _
                exact absurd e2 (by decide))).trans e2
              have hne : i ≠ b2 := fun k => by
                subst k
                rw [unhide HN1] at e
                injection e with e
                injection e with _ e _
                exact absurd e (by decide)
              exact ((Below.heap_setCell w5 ⟨b2, 1, none⟩ v' i hne).trans e3).trans e.symm
            obtain ⟨A7, n7, c7, rfl⟩ : ∃ A n c, v' = .slice A n c := by
              rcases how2.2 with ⟨e, _⟩ | ⟨g9, c9, _, e, _⟩
              · exact ⟨_, _, _, e⟩
              · exact ⟨_, _, _, e⟩
            have hL6 := hL5.grown (set_grown w5 b2 1 (.slice A7 n7 c7)) (by
              cases e : (Value.slice A7 n7 c7).ownBlock with
              | none => exact .inr rfl
              | some r => exact .inl (fun h => by
                  injection h with h
                  have := (how2.lt r e).1
                  omega)) (fun r e cur h => by
              injection e with e
              subst e
              rw [hb5] at h
              injection h with h
              injection h with _ h _
              exact absurd h (by decide))
            have c5 : w5.cell? ⟨b2, 1, none⟩ = some nv := by rw [Lib.cell_of_heap hb5]; rfl
            have f5 : w5.frozen? ⟨b2, 1, none⟩ = false := by simp [World.frozen?, hb5]
            have hst := heap_setCell_same w5 b2 1 _ _ (.slice A7 n7 c7) hb5
            have HL6 := hide hL6
            have HC5 := hide hC5
            have HST := hide hst
            have HKF := hide hkf
            have HKG := hide hkg
            clear hL5 hL6 hC5 hst hb5 how2 hgr hba hlx hown hty hkf hkg ni nz0 nz1 nz2 c2 c0' c1'
            gi_wp2
            refine ⟨unhide HKF, unhide HKG, ⟨.slice A7 n7 c7, (unhide HST).trans (by simp), ?_⟩, (unhide HC5).set (.inr rfl) _⟩
            rw [List.map_append, List.map_cons, List.map_nil, unhide HHY]
            exact unhide HL6
        case done =>
          rintro D2 ys V hD2 rfl ⟨⟨nv, hn1, hn2⟩, hV⟩ hK2
          subst hact
          have hVs := hV.size
          have hmg : (List.range R.length).map (fun i => vnode S R G (R.getD i 0)) = R.map (vnode S R G) := by
            have := congrArg (List.map (vnode S R G)) (map_getD R)
            rw [List.map_map] at this
            exact this
          rw [hmg] at hn2
          have hLv := (unhide HL6).grown (chg_grown hV) (by
            cases e : rv.ownBlock with
            | none => exact .inr rfl
            | some r =>
              obtain ⟨xs, ho, -, -⟩ := unhide HL6
              exact .inl (fun h => by
                injection h with h
                have := (ho.lt r e).1
                omega)) (fun r e cur h => by
            injection e with e
            subst e
            rw [h62] at h
            injection h with h
            injection h with _ h _
            exact absurd h (by decide))
          have hr1 := hLv.rd
          have hr2 := hn2.rd
          obtain ⟨A1, c1, hA1, hA1c⟩ := id hr1
          obtain ⟨A2, c2, hA2, hA2c⟩ := id hr2
          have hl1 : ((List.range T).map (vrow R G)).length = T := by simp
          have hl2 : (R.map (vnode S R G)).length = R.length := by simp
          rw [hl1] at hA1
          rw [hl2] at hA2
          subst hA1 hA2
          have hC1 : Chg (fun b => b = b2) W V := (unhide HC6).trans hV
          have hzW := (unhide HC6).size
          have w1 := (hC1.block b1 (by omega) (by omega)).trans (((unhide HC).block b1 (by omega) (by omega)).trans a1)
          have w2c : V.cell? ⟨b2, 0, none⟩ = some (.slice A1 T c1) := by rw [Lib.cell_of_heap hn1]; rfl
          have w3c : V.cell? ⟨b2, 1, none⟩ = some (.slice A2 R.length c2) := by rw [Lib.cell_of_heap hn1]; rfl
          have w4c : V.cell? ⟨b1, 0, none⟩ = some (.slice none 0 0) := by rw [Lib.cell_of_heap w1]; rfl
          have w5c : V.cell? ⟨b1, 1, none⟩ = some (.slice none 0 0) := by rw [Lib.cell_of_heap w1]; rfl
          have w4f : V.frozen? ⟨b1, 0, none⟩ = false := by simp [World.frozen?, w1]
          have w5f : V.frozen? ⟨b1, 1, none⟩ = false := by simp [World.frozen?, w1]
          have hg1 := heap_setCell_same V b1 0 _ _ (.slice A1 T c1) w1
          have hg2 := heap_setCell_same _ b1 1 _ _ (.slice A2 R.length c2) hg1
          have hCf : Chg (fun b => b = b1) V ((V.setCell ⟨b1, 0, none⟩ (.slice A1 T c1)).setCell ⟨b1, 1, none⟩ (.slice A2 R.length c2)) := ((Chg.refl (fun b => b = b1) V).set1 _).set1 _
          have HG2 := hide hg2
          have HCF := hide hCf
          have HR1 := hide hLv
          have HR2 := hide hn2
          have HW1 := hide w1
          have lo1 : ∀ r, (Value.slice A1 T c1).ownBlock = some r → W.heap.size ≤ r := fun r hr => by
            obtain ⟨xs, ho, -, -⟩ := hLv
            exact (ho.lt r hr).1
          have lo2 : ∀ r, (Value.slice A2 R.length c2).ownBlock = some r → W.heap.size ≤ r := fun r hr => by
            obtain ⟨xs, ho, -, -⟩ := hn2
            have := (ho.lt r hr).1
            omega
          have HHV := hide hV
          have HK2 := hide hK2
          clear hg1 hg2 hCf hr1 hr2 hA1c hA2c hLv hn2 hC1 hV hK2
          gi_wp2
          generalize (V.setCell ⟨b1, 0, none⟩ (.slice A1 T c1)).setCell ⟨b1, 1, none⟩ (.slice A2 R.length c2) = Vf at *
          have hCf := unhide HCF
          have hV := unhide HHV
          have hzf := hCf.size
          have lD : D < w6.heap.size := (Array.getElem?_eq_some_iff.1 hD6).1
          have kD2 : Vf.heap[D2]? = some (.deferred (some [])) := (hCf.block D2 (Array.getElem?_eq_some_iff.1 (unhide HK2)).1 (fun e => by
            have e : D2 = b1 := e
            omega)).trans (unhide HK2)
          have kD : (Vf.putObj D2 (.deferred none)).heap[D]? = some (.deferred (some [])) := (World.putObj_heap_other (by omega)).trans ((hCf.block D (by omega) (fun e => by
            have e : D = b1 := e
            omega)).trans ((hV.block D lD (fun e => by
            have e : D = b2 := e
            omega)).trans hD6))
          refine ⟨by simp, .inl ⟨_, _, rfl, run_takeDeferred kD2, ⟨by simp, .inl ⟨_, _, rfl, run_takeDeferred kD, ?_⟩⟩⟩⟩
          have hbt : (((Vf.putObj D2 (.deferred none)).putObj D (.deferred none))).heap[b1]? = some (Obj.cells #[.slice A1 T c1, .slice A2 R.length c2] 56 (0, 0)) := (World.putObj_heap_other (by omega)).trans ((World.putObj_heap_other (by omega)).trans ((unhide HG2).trans (by simp)))
          have hBF : Below w.heap.size w ((Vf.putObj D2 (.deferred none)).putObj D (.deferred none)) := by
            have h1 : Below w.heap.size w W := by rw [g0]; exact unhide HBW
            have h2 : Below w.heap.size W w6 := (unhide HC6).below (fun i e => by
              have e : i = b2 := e
              omega) h1.size
            have h3 : Below w.heap.size w6 V := hV.below (fun i e => by
              have e : i = b2 := e
              omega) (by have := (unhide HC6).size; have := h1.size; omega)
            have h4 : Below w.heap.size V Vf := hCf.below (fun i e => by
              have e : i = b1 := e
              omega) (by have := (unhide HC6).size; have := h1.size; omega)
            have h5 := (((h1.trans h2).trans h3).trans h4)
            exact (h5.trans (belowK_b (w := w) (Nat.le_refl _) Vf D2 _ _ (by omega) kD2 rfl rfl)).trans (belowK_b (w := w) (Nat.le_refl _) _ D _ _ (by omega) kD rfl rfl)
          have hnoc : ∀ (X : World) (d : Nat) (o : Obj), X.heap[d]? = some o → o.isCells = false → ∀ {base : Nat} {e : TypeId} {k n : Nat} {v : Value} {xs : List Value}, X.ownsRow base e k v n xs → v.ownBlock ≠ some d ∨ v.ownBlock = none := fun X d o hd ho {base e k n v xs} h => by
            cases ev : v.ownBlock with
            | none => exact .inr rfl
            | some r =>
              refine .inl (fun h2 => ?_)
              injection h2 with h2
              subst h2
              obtain ⟨c, hc⟩ := own_type h r ev
              rw [hc] at hd
              cases hd
              cases ho
          have step1 : ∀ {X Y : World} {d : Nat} {o : Obj} {base : Nat} {v : Value} {LL : List (List Int)}, LLo base X v LL → X.heap[d]? = some o → o.isCells = false → X.grownBy Y (some d) → LLo base Y v LL := fun {X Y d o base v LL} h hd ho hg => by
            obtain ⟨xs, h1, _⟩ := id h
            exact h.grown hg (hnoc X d o hd ho h1) (fun r e cur hh => by
              injection e with e
              subst e
              rw [hd] at hh
              cases hh
              cases ho)
          have step2 : ∀ {X Y : World} {d : Nat} {o : Obj} {base : Nat} {v : Value} {LL : List (Int × List Int)}, NLo base X v LL → X.heap[d]? = some o → o.isCells = false → X.grownBy Y (some d) → NLo base Y v LL := fun {X Y d o base v LL} h hd ho hg => by
            obtain ⟨xs, h1, _⟩ := id h
            exact h.grown hg (hnoc X d o hd ho h1) (fun r e cur hh => by
              injection e with e
              subst e
              rw [hd] at hh
              cases hh
              cases ho)
          have hbW : b1 < W.heap.size := by omega
          have LV := (unhide HR1).grown (chg_grown hCf) (by
            cases e : (Value.slice A1 T c1).ownBlock with
            | none => exact .inr rfl
            | some r => exact .inl (fun h => by
                injection h with h
                have := lo1 r e
                omega)) (fun r e cur h => by
            injection e with e
            subst e
            rw [unhide HW1] at h
            injection h with h
            injection h with _ h _
            exact absurd h (by decide))
          have NV := (unhide HR2).grown (chg_grown hCf) (by
            cases e : (Value.slice A2 R.length c2).ownBlock with
            | none => exact .inr rfl
            | some r => exact .inl (fun h => by
                injection h with h
                have := lo2 r e
                omega)) (fun r e cur h => by
            injection e with e
            subst e
            rw [unhide HW1] at h
            injection h with h
            injection h with _ h _
            exact absurd h (by decide))
          have LF := step1 (step1 LV kD2 rfl (grownBy_putObj' Vf D2 (.deferred none))) kD rfl (grownBy_putObj' _ D (.deferred none))
          have NF := step2 (step2 NV kD2 rfl (grownBy_putObj' Vf D2 (.deferred none))) kD rfl (grownBy_putObj' _ D (.deferred none))
          clear step1 step2 hnoc LV NV kD kD2
          generalize (Vf.putObj D2 (.deferred none)).putObj D (.deferred none) = WF at *
          have m0 : WF.cell? ⟨b1, 0, none⟩ = some (.slice A1 T c1) := by rw [Lib.cell_of_heap hbt]; rfl
          have m1 : WF.cell? ⟨b1, 1, none⟩ = some (.slice A2 R.length c2) := by rw [Lib.cell_of_heap hbt]; rfl
          have hld : (loadVar 56 ⟨b1, 0, none⟩).run Try.prog WF = .ok (.agg #[.slice A1 T c1, .slice A2 R.length c2]) WF := by
            go_simp
          refine ⟨_, results_cell1 rfl rfl hld, _, rfl, ⟨_, _, rfl, ?_, ?_⟩, hBF⟩
          · show RdLL WF _ ((List.range T).map (vrow (G.reach T S) G))
            rw [hR]
            exact LF.rd
          · show RdNd WF _ ((G.reach T S).map (vnode S (G.reach T S) G))
            rw [hR]
            exact NF.rd
end
end Go.Proofs.Ytbkaopeajjechaa
