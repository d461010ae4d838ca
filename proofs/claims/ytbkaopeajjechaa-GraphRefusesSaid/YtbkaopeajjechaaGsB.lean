/- The walks of package graph: Copy, its first loop. -/
import Derived.Test.YtbkaopeajjechaaGsA
import Derived.Test.YtbkaopeajjechaaGuA
namespace Go.Proofs.Ytbkaopeajjechaa
set_option linter.unusedVariables false
set_option linter.unusedSimpArgs false
open Go.RowKit Go.Maps Go.Shelf

attribute [local go_sem] Oper.semAt_some

section
variable {T : Nat} {sp : Int} {len : Nat} {S : Nat → ByteArray} {w : World} {L : Lay} {G : Gr} {md : Int}

theorem twin_und : Try.prog.underlying 84 = some (.map 71 71) := by kernel_rfl
theorem ptr_z (W : World) : (zeroValue 71).run Try.prog W = .ok (.pointer none) W := by kernel_rfl

theorem lookI_pos {b : Nat} : ∀ (K : List (Nat × Value)) (i0 p : Nat) (hp : p < K.length), b = K[p].1 → (∀ (q : Nat) (hq : q < K.length), q < p → b ≠ K[q].1) → lookI b K i0 = some (i0 + p, K[p].2)
  | x :: r, i0, 0, _, h, _ => by
    unfold lookI
    rw [if_pos (by simpa using h)]
    rfl
  | x :: r, i0, p + 1, hp, h, hn => by
    unfold lookI
    rw [if_neg (show ¬ b = x.1 from hn 0 (by simp) (by omega))]
    have := lookI_pos r (i0 + 1) p (by simp at hp; omega) (by simpa using h) (fun q hq hqp => hn (q + 1) (by simp; omega) (by omega))
    rw [this]
    simp
    omega

theorem idxOf_le : ∀ (R : List Nat) (q : Nat) (h : q < R.length), R.idxOf R[q] ≤ q
  | x :: r, 0, _ => by simp
  | x :: r, q + 1, h => by
    have hq : q < r.length := by simp at h; omega
    have := idxOf_le r q hq
    rw [List.getElem_cons_succ, List.idxOf_cons]
    cases (x == r[q]'hq) with
    | true => exact Nat.zero_le _
    | false => simpa using this

theorem lookV_twp {S : Nat → ByteArray} {L : Lay} {R : List Nat} {a : Nat → Nat} {D : Nat → Prop} (hinj : ∀ x y, D x → D y → L.adr x = L.adr y → x = y) (hR : ∀ x ∈ R, D x) {y : Nat} (hy : y ∈ R) (z : Value) :
    lookV (L.adr y) ((List.range R.length).map fun i => (L.adr (R.getD i 0), pt (a i))) z = pt (a (R.idxOf y)) := by
  have hl : R.idxOf y < R.length := List.idxOf_lt_length_of_mem hy
  have h := lookI_pos (b := L.adr y) ((List.range R.length).map fun i => (L.adr (R.getD i 0), pt (a i))) 0 (R.idxOf y) (by simpa using hl) (by
    simp only [List.getElem_map, List.getElem_range]
    rw [getD_at hl, List.getElem_idxOf]) (fun q hq hqp => by
    have hq' : q < R.length := by simpa using hq
    simp only [List.getElem_map, List.getElem_range]
    rw [getD_at hq']
    intro e
    have e2 := hinj _ _ (hR _ hy) (hR _ (List.getElem_mem hq')) e
    have h3 : R.idxOf y ≤ q := by
      rw [e2]
      exact idxOf_le _ _ hq'
    omega)
  unfold lookV
  rw [h]
  simp

def blkOf : Option Addr → Nat
  | some q => q.block
  | none => 0

theorem if_iff {α : Type} {p q : Prop} [Decidable p] [Decidable q] (h : p ↔ q) {a b : α} : (if p then a else b) = (if q then a else b) := by
  by_cases e : p
  · rw [if_pos e, if_pos (h.1 e)]
  · rw [if_neg e, if_neg (fun k => e (h.2 k))]

theorem wpL_gen {P : Program} {ops : Array Oper} {Q : Exit → Act → World → Prop} {l : List Oper} {a : Act} {w : World} (h : ∀ W, W = w → wpList P ops Q l a W) : wpList P ops Q l a w := h w rfl

theorem lookI_no (b : Nat) : ∀ (K : List (Nat × Value)) (i : Nat), (∀ q ∈ K, b ≠ q.1) → lookI b K i = none
  | [], _, _ => rfl
  | x :: r, i, h => by
    unfold lookI
    rw [if_neg (h x List.mem_cons_self)]
    exact lookI_no b r (i + 1) (fun q hq => h q (List.mem_cons_of_mem _ hq))

/-- The new objects so far: the map to them, and each with its scalar fields. -/
structure TwS (S : Nat → ByteArray) (G : Gr) (L : Lay) (R : List Nat) (base pm : Nat) (W : World) (k : Nat) (a ib : Nat → Nat) (iA : Nat → Option Addr) (ic : Nat → Nat) : Prop where
  map : PMap W pm ((List.range k).map fun i => (L.adr (R.getD i 0), pt (a i)))
  obj : ∀ i, i < k → W.heap[a i]? = some (Obj.cells #[.int .i64 (G.sh (R.getD i 0)), .slice none 0 0, .slice (iA i) (S (G.sh (R.getD i 0))).size (ic i)] 91 (0, 0)) ∧ base ≤ a i
  ints : ∀ i, i < k → 0 < (S (G.sh (R.getD i 0))).size → iA i = some ⟨ib i, 0, none⟩ ∧ base ≤ ib i ∧ ib i < a i ∧ (∃ c, W.heap[ib i]? = some (Obj.cells c 2 (0, 0))) ∧ ∀ f, f < (S (G.sh (R.getD i 0))).size → W.cell? ⟨ib i, f, none⟩ = some (.int .i64 (G.ints S (R.getD i 0) f))
  ord : ∀ i j, i < j → j < k → a i < a j ∧ (0 < (S (G.sh (R.getD j 0))).size → a i < ib j)

theorem TwS.keep {R : List Nat} {base pm : Nat} {W V : World} {k : Nat} {a ib : Nat → Nat} {iA : Nat → Option Addr} {ic : Nat → Nat} (h : TwS S G L R base pm W k a ib iA ic)
    (hk : ∀ b o, W.heap[b]? = some o → (b = pm ∨ o.isCells = true) → V.heap[b]? = W.heap[b]?) : TwS S G L R base pm V k a ib iA ic := by
  refine ⟨⟨(hk pm _ h.map.1 (.inl rfl)).trans h.map.1, fun x hx => ?_⟩, fun i hi => ⟨(hk _ _ (h.obj i hi).1 (.inr rfl)).trans (h.obj i hi).1, (h.obj i hi).2⟩, fun i hi hs => ?_, h.ord⟩
  · obtain ⟨c, t, e⟩ := h.map.2 x hx
    exact ⟨c, t, (hk _ _ e (.inr rfl)).trans e⟩
  · obtain ⟨h1, h2, h3, ⟨c, hc⟩, h4⟩ := h.ints i hi hs
    have hb := hk _ _ hc (.inr rfl)
    exact ⟨h1, h2, h3, ⟨c, hb.trans hc⟩, fun f hf => (World.cell?_of_block (a := ⟨ib i, f, none⟩) hb).trans (h4 f hf)⟩

theorem TwS.lt {R : List Nat} {base pm : Nat} {W : World} {k : Nat} {a ib : Nat → Nat} {iA : Nat → Option Addr} {ic : Nat → Nat} (h : TwS S G L R base pm W k a ib iA ic) {i : Nat} (hi : i < k) : a i < W.heap.size := (Array.getElem?_eq_some_iff.1 (h.obj i hi).1).1

/-- One more. -/
theorem TwS.more {R : List Nat} {base pm : Nat} {W V : World} {k : Nat} {a ib : Nat → Nat} {iA : Nat → Option Addr} {ic : Nat → Nat} (h : TwS S G L R base pm W k a ib iA ic)
    {b jb : Nat} {jA : Option Addr} {jc : Nat}
    (hm : PMap V pm ((List.range k).map (fun i => (L.adr (R.getD i 0), pt (a i))) ++ [(L.adr (R.getD k 0), pt b)]))
    (hk : ∀ c o, W.heap[c]? = some o → c ≠ pm → V.heap[c]? = W.heap[c]?) (hpm : pm < base) (hW : base ≤ W.heap.size)
    (ho : V.heap[b]? = some (Obj.cells #[.int .i64 (G.sh (R.getD k 0)), .slice none 0 0, .slice jA (S (G.sh (R.getD k 0))).size jc] 91 (0, 0))) (hb : W.heap.size ≤ b)
    (hi : 0 < (S (G.sh (R.getD k 0))).size → jA = some ⟨jb, 0, none⟩ ∧ W.heap.size ≤ jb ∧ jb < b ∧ (∃ c, V.heap[jb]? = some (Obj.cells c 2 (0, 0))) ∧ ∀ f, f < (S (G.sh (R.getD k 0))).size → V.cell? ⟨jb, f, none⟩ = some (.int .i64 (G.ints S (R.getD k 0) f))) :
    TwS S G L R base pm V (k + 1) (fun i => if i = k then b else a i) (fun i => if i = k then jb else ib i) (fun i => if i = k then jA else iA i) (fun i => if i = k then jc else ic i) := by
  refine ⟨?_, fun i hi' => ?_, fun i hi' hs => ?_, fun i j hij hj => ?_⟩
  · rw [List.range_succ, List.map_append, List.map_cons, List.map_nil, if_pos rfl]
    rw [List.map_congr_left (g := fun i => (L.adr (R.getD i 0), pt (a i))) (fun i hi => by
      have := List.mem_range.1 hi
      rw [if_neg (by omega)])]
    exact hm
  · by_cases e : i = k
    · subst e
      simp only [if_pos]
      exact ⟨ho, by omega⟩
    · simp only [if_neg e]
      have hik : i < k := by omega
      exact ⟨(hk _ _ (h.obj i hik).1 (by have := (h.obj i hik).2; omega)).trans (h.obj i hik).1, (h.obj i hik).2⟩
  · by_cases e : i = k
    · subst e
      simp only [if_pos]
      obtain ⟨h1, h2, h3⟩ := hi hs
      exact ⟨h1, by omega, h3⟩
    · simp only [if_neg e]
      have hik : i < k := by omega
      obtain ⟨h1, h2, h3, ⟨c, hc⟩, h4⟩ := h.ints i hik hs
      have hb := hk _ _ hc (by omega)
      exact ⟨h1, h2, h3, ⟨c, hb.trans hc⟩, fun f hf => (World.cell?_of_block (a := ⟨ib i, f, none⟩) hb).trans (h4 f hf)⟩
  · have hik : i < k := by omega
    rw [if_neg (show i ≠ k by omega)]
    by_cases e : j = k
    · subst e
      simp only [if_pos]
      have := h.lt hik
      exact ⟨by omega, fun hs => by have := (hi hs).2.1; omega⟩
    · simp only [if_neg e]
      exact h.ord i j hij (by omega)

set_option maxRecDepth 100000 in
set_option maxHeartbeats 8000000 in
theorem copy_any (H : IsG T sp len S w L G md) (hnn : G.n ≤ 1000000) :
    Calls Try.prog 15 #[.pointer (some ⟨L.g, 0, none⟩)] w fun e w' => ∃ L2, e = .returned (.pointer (some ⟨L2.g, 0, none⟩)) ∧ Below w.heap.size w w' ∧ IsG T sp len S w' L2 G md ∧ (∀ b, L2.own b → w.heap.size ≤ b) ∧ L2.shA = L.shA := by
  have h8 : ∀ i, i < len → (S i).size ≤ 8 := fun i hi => (H.ok.tab.2.2 i hi).1
  have HI := hide H
  have c0 := none_no H
  clear H
  have hmm := @run_makeMap Try.prog
  refine (callsIn_wide (n := 6)).1 ?_
  refine callsIn_of_wp_marks Try.func15 rfl trivial ?_ rfl
  simp only [Try.ntmps15, List.size_toArray, List.length_cons, List.length_nil, Nat.reduceAdd, Nat.reduceSub, Array.replicate_succ, Array.replicate_zero, List.push_toArray, List.append_toArray, List.nil_append, List.cons_append]
  gi_wp2
  refine ⟨trivial, ?_⟩
  refine (callsIn_wide.2 c0).mono ?_
  rintro e w1 ⟨rfl, rfl⟩
  gi_wp2
  refine ⟨trivial, ?_⟩
  refine (callsIn_wide.2 (all_any _ ⟨_, rfl⟩ _)).mono ?_
  rintro e w4 ⟨rfl, hE⟩
  have hi0 := (MapKept.heap_alloc w (.map #[] 0)).1
  have hp0 := PMap.new w
  generalize hW1 : w.alloc (.map #[] 0) = W1 at hE hi0 hp0
  have z1 : W1.heap.size = w.heap.size + 1 := by rw [← hW1]; simp
  have b1 : Below w.heap.size w W1 := by rw [← hW1]; repeat (first | exact Below.refl _ _ | assumption | refine Below.alloc ?_ (by first | (simp; done) | (simp; omega) | omega) _ | refine Below.setCell ?_ (by first | (simp; done) | (simp; omega) | omega) _ | apply Below.drew | refine Below.trans ?_ (Below.mono (by assumption) (by first | (simp; done) | (simp; omega) | omega)))
  have hi1 := (MapKept.heap_alloc W1 (.cells #[.map (some w.heap.size)] 84)).1
  generalize hW2 : W1.alloc (.cells #[.map (some w.heap.size)] 84) = W2 at hE hi1
  have z2 : W2.heap.size = w.heap.size + 2 := by rw [← hW2]; simp [z1]
  have b2 : Below W1.heap.size W1 W2 := by rw [← hW2]; repeat (first | exact Below.refl _ _ | assumption | refine Below.alloc ?_ (by first | (simp; done) | (simp; omega) | omega) _ | refine Below.setCell ?_ (by first | (simp; done) | (simp; omega) | omega) _ | apply Below.drew | refine Below.trans ?_ (Below.mono (by assumption) (by first | (simp; done) | (simp; omega) | omega)))
  have hi2 := (MapKept.heap_alloc W2 (.cells #[.pointer (some ⟨L.g, 0, none⟩)] 31)).1
  rw [hE] at hi2
  have z4 : w4.heap.size = w.heap.size + 3 := by rw [← hE]; simp [z2]
  have b4 : Below W2.heap.size W2 w4 := by rw [← hE]; repeat (first | exact Below.refl _ _ | assumption | refine Below.alloc ?_ (by first | (simp; done) | (simp; omega) | omega) _ | refine Below.setCell ?_ (by first | (simp; done) | (simp; omega) | omega) _ | apply Below.drew | refine Below.trans ?_ (Below.mono (by assumption) (by first | (simp; done) | (simp; omega) | omega)))
  clear hW1 hW2 hE hi0
  have hB4 : Below w.heap.size w w4 := (b1.trans (b2.mono (by omega))).trans (b4.mono (by omega))
  have hp4 := hp0.keep (b2.trans (b4.mono (by omega)))
  have k1 : w4.heap[w.heap.size + 1]? = some (.cells #[.map (some w.heap.size)] 84 (0, 0)) := by
    rw [z1] at hi1
    exact (b4.block (w.heap.size + 1) (by omega)).trans hi1
  have kB : w4.cell? ⟨w.heap.size + 2, 0, none⟩ = some (.pointer (some ⟨L.g, 0, none⟩)) := by
    rw [z2] at hi2
    rw [Lib.cell_of_heap hi2]
    rfl
  have H4 := hide ((unhide HI).below hB4)
  have hrl := reach_len (unhide HI).isIn
  have hro := hide (reach_ok (unhide HI).isIn)
  clear hi1 hi2 b1 b2 b4 hp0
  rw [z2]
  have hs := all_stops 5 (by omega) (unhide H4) hnn h8 (w.heap.size + 2) kB
  generalize hR : G.reach T S = R at *
  gi_wp2
  refine wpIn_rangeFunc_O rfl (by omega) (gf := 66) (lb := #[.pointer (some ⟨w.heap.size + 2, 0, none⟩)]) rfl trivial (enters_of Try.func66 (by kernel_rfl) rfl)
    hs KpG.trans (fun W l o o' _ hl ho _ => KpG.put W l o o' hl ho) (Below.refl _ _) (fun _ => rfl)
    (fun ys W => ((∃ a ib iA ic, TwS S G L R (w.heap.size + 3) w.heap.size W ys.length a ib iA ic) ∧ W.heap[w.heap.size + 1]? = some (.cells #[.map (some w.heap.size)] 84 (0, 0))) ∧ (Below w.heap.size w W ∧ w.heap.size + 3 ≤ W.heap.size))
    (fun _ _ _ => False)
    (OwnFrom.and (OwnFrom.and (fun s A B row hs hg hr => by
      obtain ⟨a, ib, iA, ic, hT⟩ := hs
      refine ⟨a, ib, iA, ic, hT.keep (fun b o hb hc => hg.block b (Array.getElem?_eq_some_iff.1 hb).1 (fun e => ?_))⟩
      have e : row = some b := by first | exact e | exact e.symm
      obtain ⟨r1, o2, r2, r3⟩ := hr b e
      rcases hc with rfl | hc
      · omega
      · rw [hb] at r2
        injection r2 with r2
        subst r2
        rw [hc] at r3
        cases r3) (own_heap (o := fun _ => _) (by omega))) (OwnFrom.and (ownFrom_below (Nat.le_refl _) (by omega)) (fun _ _ _ _ hs hg _ => Nat.le_trans hs hg.size)))
    (fun _ _ _ _ _ hs _ _ => hs)
    ⟨⟨⟨fun _ => 0, fun _ => 0, fun _ => none, fun _ => 0, ⟨hp4, fun i hi => absurd hi (by simp), fun i hi => absurd hi (by simp), fun i j _ hj => absurd hj (by simp)⟩⟩, k1⟩, hB4, by omega⟩
    (fun x => { tmps := #[Value.pointer (some ⟨L.g, 0, none⟩), undef, Value.pointer none, Value.pointer (some ⟨w.heap.size + 1, 0, none⟩), undef, L.ptr (R.getD x 0), undef, undef, undef, undef, undef, undef, undef, undef, Value.pointer (some ⟨L.g, 0, none⟩), Value.bool false, Value.map (some w.heap.size), Value.pointer (some ⟨L.g, 0, none⟩), Value.func (.func 66) #[] #[.pointer (some ⟨w.heap.size + 2, 0, none⟩)], Value.int .i64 ((x : Int) + 1), L.ptr (R.getD x 0), undef, undef, undef, undef, undef, undef, undef, undef, undef, undef, undef, undef, undef, undef, undef, undef, undef, undef, undef, undef, undef, undef, undef, undef, undef, undef, undef, undef, undef, undef, undef, undef, undef, undef, undef, undef, undef, undef, undef, undef, undef, undef, undef, undef, undef, undef, undef, undef, undef, undef, undef, undef, undef, undef, undef, undef, undef, undef, undef, undef, undef, undef, undef, undef, undef, undef, undef, undef, undef, undef, undef, undef, undef, undef, undef, undef, undef], defers := [] }) ?assign ?body ?done (fun D c pre W _ _ h _ => h.elim)
  case assign =>
    intro l x W K hK
    generalize R.getD x 0 = y at *
    gi_wp2
    exact hK
  case body =>
    rintro l pre x W ⟨⟨⟨a, ib, iA, ic, hT⟩, i2⟩, hB, hW3⟩ ⟨rfl, hx⟩
    rw [List.length_range] at hT
    have hmem : R.getD x 0 ∈ R := by rw [getD_at hx]; exact List.getElem_mem hx
    have hd := (unhide hro).2 _ hmem
    have hnew : ∀ i, i < x → R.getD i 0 ≠ R.getD x 0 := fun i hi e => by
      rw [getD_at (by omega), getD_at hx] at e
      have := (List.getElem_inj (unhide hro).1).1 e
      omega
    have hdi : ∀ i, i < x → L.dom (R.getD i 0) := fun i hi => by
      have hm : R.getD i 0 ∈ R := by rw [getD_at (by omega)]; exact List.getElem_mem _
      exact ((unhide hro).2 _ hm).2
    have hlk : lookI (L.adr (R.getD x 0)) ((List.range x).map fun i => (L.adr (R.getD i 0), pt (a i))) 0 = none := lookI_no _ _ _ (fun q hq e => by
      obtain ⟨i, hi, rfl⟩ := List.mem_map.1 hq
      have hi := List.mem_range.1 hi
      exact hnew i hi (((unhide HI).inj _ _ hd.2 (hdi i hi) e).symm))
    have HT := hide hT
    have HLK := hide hlk
    clear hT hnew hdi hlk
    generalize hy : R.getD x 0 = y at *
    have HW := hide ((unhide HI).below hB)
    have hO := (unhide HW).obj y hd.2
    have hWs := hB.size
    have lt1 : w.heap.size + 1 < W.heap.size := (Array.getElem?_eq_some_iff.1 i2).1
    have u0 : ∀ v : Later W, v.val.cell? ⟨w.heap.size + 1, 0, none⟩ = some (.map (some w.heap.size)) := Later.cell lt1 (by rw [Lib.cell_of_heap i2]; rfl)
    have u1 : ∀ v : Later W, v.val.cell? ⟨L.adr y, 0, none⟩ = some (.int .i64 (G.sh y)) := Later.cell hO.lt hO.c0
    have u2 : ∀ v : Later W, v.val.cell? ⟨L.adr y, 2, none⟩ = some (.slice (L.iA y) (S (G.sh y)).size (L.ic y)) := Later.cell hO.lt hO.c2
    have CK : Hid (∀ V, Below W.heap.size W V → Calls Try.prog 37 #[.slice (L.iA y) (S (G.sh y)).size (L.ic y)] V fun e w' => ∃ A' c', e = .returned (.slice A' (S (G.sh y)).size c') ∧ Below V.heap.size V w' ∧ (0 < (S (G.sh y)).size → ∃ g, A' = some ⟨g, 0, none⟩ ∧ V.heap.size ≤ g ∧ (∃ c, w'.heap[g]? = some (Obj.cells c 2 (0, 0))) ∧ ∀ f, f < (S (G.sh y)).size → w'.cell? ⟨g, f, none⟩ = some (.int .i64 (G.ints S y f)))) := hide (fun V hV => by
      have h9 := h8 _ ((unhide HI).ok.sh y hO.num.1 hO.num.2)
      refine (cloneI (L.iA y) (S (G.sh y)).size (L.ic y) ((List.range (S (G.sh y)).size).map fun f => .int .i64 (G.ints S y f)) V (by simp) (by simp [Value.oneCell']) (fun hp => ?_) (by omega)).mono ?_
      · refine ⟨L.ib y, 0, (hO.pos hp).2.1, fun j u hu => ?_⟩
        obtain ⟨hj, rfl⟩ := List.getElem?_eq_some_iff.1 hu
        have hj : j < (S (G.sh y)).size := by simpa using hj
        rw [Nat.zero_add]
        have hl := block_lt (hO.ints j hj).1
        rw [hV.cell (p := ⟨L.ib y, j, none⟩) hl, (hO.ints j hj).1]
        simp
      · rintro e w' ⟨v', rfl, hb', ho'⟩
        obtain ⟨A', c', rfl, hfm⟩ := row_form (xs := (List.range (S (G.sh y)).size).map fun f => Value.int .i64 (G.ints S y f)) (by rw [List.length_map, List.length_range]; exact ho')
        rw [List.length_map, List.length_range] at ho' ⊢
        refine ⟨A', c', rfl, hb', fun hp => ?_⟩
        obtain ⟨g, hg, _, cur, hcur⟩ := hfm 0 (.int .i64 (G.ints S y 0)) (by simp [hp])
        refine ⟨g, hg, (ho'.lt g (by rw [hg]; rfl)).1, ⟨cur, hcur⟩, fun f hf => ?_⟩
        obtain ⟨g', hg', hc, _⟩ := hfm f (.int .i64 (G.ints S y f)) (by simp [hf])
        rw [hg] at hg'
        injection hg' with hg'
        injection hg' with hg' _ _
        subst hg'
        exact hc)
    have hp : L.ptr y = .pointer (some ⟨L.adr y, 0, none⟩) := by unfold Lay.ptr; rw [if_neg hd.1]
    rw [hp]
    have hcl := hide hO.cells
    have hOt := hO.lt
    clear hO
    gi_wp2
    refine wpIn_region_side_later [0, 0, 0, 0, 0, 0, 0, 0, 0, 0, 1, 1, 1, 2] 13 W (by kernel_rfl) (by kernel_rfl) (by rfl) (by rintro ⟨_, _, h⟩; exact h) (by repeat (first | exact Below.refl _ _ | assumption | refine Below.alloc ?_ (by first | (simp; done) | (simp; omega) | omega) _ | refine Below.setCell ?_ (by first | (simp; done) | (simp; omega) | omega) _ | apply Below.drew | refine Below.trans ?_ (Below.mono (by assumption) (by first | (simp; done) | (simp; omega) | omega)))) ?_; simp only [kblk, List.map_cons, List.map_nil, Nat.reduceBNe, diesOps_f, diesOps_t, diesOps_nil, bne_self_eq_false]; (repeat (first | go_big_quiet_skip | (go_big_quiet_want; (first | ((fail); go_big_quiet_on; simp only [Act.put, List.setIfInBounds_toArray, List.set_cons_zero, List.set_cons_succ]) | (go_big_quiet_op; (first | go_big_quiet_on | go_big_quiet_call ((fail)))))))); refine wpQuiet_nil ?_; rw [show sideIdx [0, 0, 0, 0, 0, 0, 0, 0, 0, 0, 1, 1, 1, 2] 13 = [10, 11, 12] from by decide]; simp only [List.filterMap_cons, List.filterMap_nil, List.getElem?_cons_zero, List.getElem?_cons_succ]; (try simp only [applyP, List.nil_append, List.cons_append, List.foldl_cons, List.foldl_nil, Act.put, List.setIfInBounds_toArray, List.set_cons_zero, List.set_cons_succ]); unfold sideWp Oper.wpV; (try simp only [applyP, List.nil_append, List.cons_append, List.foldl_cons, List.foldl_nil, Act.put, List.setIfInBounds_toArray, List.set_cons_zero, List.set_cons_succ]); go_simp
    have hdr : Below W.heap.size W W.drew := (Below.refl _ W).drew
    refine (unhide CK _ hdr).mono ?_
    rintro e w5 ⟨A', c', rfl, hb5, hc5⟩
    have hb5' : Below W.heap.size W w5 := hdr.trans (hb5.mono (Nat.le_refl _))
    refine ⟨_, rfl, hb5', ?_⟩
    (try simp only [applyP, List.nil_append, List.cons_append, List.foldl_cons, List.foldl_nil, Act.put, List.setIfInBounds_toArray, List.set_cons_zero, List.set_cons_succ]); unfold sideWp Oper.wpV; (try simp only [applyP, List.nil_append, List.cons_append, List.foldl_cons, List.foldl_nil, Act.put, List.setIfInBounds_toArray, List.set_cons_zero, List.set_cons_succ]); go_simp
    refine ⟨hb5'.alloc hb5'.size _, ?_⟩
    unfold sideWp; simp only [applyP, List.nil_append, List.cons_append, List.foldl_cons, List.foldl_nil, Act.put, List.setIfInBounds_toArray, List.set_cons_zero, List.set_cons_succ, List.drop_succ_cons, List.drop_zero]
    refine wpL_gen ?_
    intro W6 hW6
    have hA6 : W6 = w5.alloc (.cells #[.int .i64 (G.sh y), .slice none 0 0, .slice A' (S (G.sh y)).size c'] 91) := by rw [hW6]; rfl
    clear hW6
    have hz5 := hb5'.size
    have ho6 := (MapKept.heap_alloc w5 (.cells #[.int .i64 (G.sh y), .slice none 0 0, .slice A' (S (G.sh y)).size c'] 91)).1
    rw [← hA6] at ho6
    have hz6 : W6.heap.size = w5.heap.size + 1 := by rw [hA6]; simp
    have hb6 : Below w5.heap.size w5 W6 := by rw [hA6]; repeat (first | exact Below.refl _ _ | assumption | refine Below.alloc ?_ (by first | (simp; done) | (simp; omega) | omega) _ | refine Below.setCell ?_ (by first | (simp; done) | (simp; omega) | omega) _ | apply Below.drew | refine Below.trans ?_ (Below.mono (by assumption) (by first | (simp; done) | (simp; omega) | omega)))
    clear hA6
    have hB6 : Below W.heap.size W W6 := hb5'.trans (hb6.mono hz5)
    have hT := unhide HT
    have hpm : w.heap.size < W.heap.size := (Array.getElem?_eq_some_iff.1 hT.map.1).1
    obtain ⟨j0, hj0, hsz⟩ := inf_o
    obtain ⟨W7, hup, hP7, hg7⟩ := run_update_pt (P := Try.prog) (v := pt w5.heap.size) twin_und und_p hj0 hsz (hT.map.keep hB6) ((unhide hcl).keep hB6) (unhide HLK)
    have hz7 := hg7.size
    go_wp2
    have hpm6 : W6.heap[w.heap.size]? = some _ := (hB6.block _ hpm).trans hT.map.1
    have hzW6 := hB6.size
    have e7 : ∀ c o, W.heap[c]? = some o → c ≠ w.heap.size → W7.heap[c]? = W.heap[c]? := fun c o hc hne => by
      have hl := (Array.getElem?_eq_some_iff.1 hc).1
      exact (hg7.block c (by omega) (fun e => hne (by first | (injection e; done) | (injection e with e; exact e) | (injection e with e; exact e.symm)))).trans (hB6.block c hl)
    have e76 : ∀ c, c < W6.heap.size → c ≠ w.heap.size → W7.heap[c]? = W6.heap[c]? := fun c hl hne => hg7.block c hl (fun e => hne (by first | (injection e; done) | (injection e with e; exact e) | (injection e with e; exact e.symm)))
    subst hy
    refine ⟨KeepsFrom.trans (keepsFrom_below hB6 _) (KeepsFrom.of_grownBy hg7 (fun j e => by injection e with e; omega)), KpG.trans (KpG.below hB6) (fun i c f e => e76 i (Array.getElem?_eq_some_iff.1 e).1 (fun h => by subst h; rw [hpm6] at e; cases e)), ⟨?_, ?_⟩, (hB.trans (hB6.mono hWs)).grown hg7 (by omega) (fun r e => by injection e with e; omega), by omega⟩
    · have hlen : (List.range x ++ [x]).length = x + 1 := by simp
      rw [hlen]
      refine ⟨_, _, _, _, TwS.more (b := w5.heap.size) (jb := match A' with | some q => q.block | none => 0) (jA := A') (jc := c') hT hP7 e7 (by omega) (by omega) ((e76 _ (by omega) (by omega)).trans ho6) hz5 (fun hs => ?_)⟩
      obtain ⟨g, rfl, hg1, ⟨cc, hg2⟩, hg3⟩ := hc5 hs
      have hgl := (Array.getElem?_eq_some_iff.1 hg2).1
      simp only [World.size_drew] at hg1
      have hb76 : W7.heap[g]? = w5.heap[g]? := (e76 g (by omega) (by omega)).trans (hb6.block g hgl)
      exact ⟨rfl, hg1, hgl, ⟨cc, hb76.trans hg2⟩, fun f hf => (World.cell?_of_block (a := ⟨g, f, none⟩) hb76).trans (hg3 f hf)⟩
    · exact (e7 _ _ i2 (by omega)).trans i2
  case done =>
    rintro D ys W hD rfl ⟨⟨⟨a, ib, iA, ic, hT⟩, i2⟩, hB, hW3⟩ hK
    rw [List.length_range] at hT
    have HT := hide hT
    have HK := hide hK
    have v2 : W.cell? ⟨w.heap.size + 1, 0, none⟩ = some (.map (some w.heap.size)) := by rw [Lib.cell_of_heap i2]; rfl
    have hrg := run_range_pt (P := Try.prog) twin_und hT.map
    have hD1 := hK
    clear hT hK c0 hs k1 kB hp4 hmm
    gi_wp2
    refine wpIn_wide.2 ?_
    have HB := hide hB
    have hT0 := unhide HT
    have bT : TwB S G L R (w.heap.size + 3) W.heap.size w.heap.size W [] a ib iA ic (fun _ => 0) (fun _ => none) (fun _ => 0) := ⟨hT0.map, fun i hi => ⟨by simpa using (hT0.obj i hi).1, (hT0.obj i hi).2, hT0.lt hi⟩, hT0.ints, hT0.ord, (fun i _ h => by cases h), (fun i j _ _ h => by cases h)⟩
    have hB0 : Below W.heap.size W (W.alloc (.mapIter (some w.heap.size) R.length #[] R.length)) := (Below.refl _ _).alloc (Nat.le_refl _) _
    have bT1 := hide (bT.keep (V := W.alloc (.mapIter (some w.heap.size) R.length #[] R.length)) (fun b o hb _ => hB0.block b (Array.getElem?_eq_some_iff.1 hb).1))
    have iT0 := PIter.start (W := W) (pm := w.heap.size) (K := (List.range R.length).map fun i => (L.adr (R.getD i 0), pt (a i)))
    simp only [List.length_map, List.length_range] at iT0
    have iT := hide iT0
    have HB0 := hide hB0
    have lt1 : w.heap.size + 1 < W.heap.size := block_lt v2
    clear iT0
    clear hB hT0 bT hB0 hrg HT
    go_loopw [] (fun wr => ∃ seen hb hA hc, Hid (TwB S G L R (w.heap.size + 3) W.heap.size w.heap.size wr seen a ib iA ic hb hA hc) ∧ Hid (PIter wr W.heap.size w.heap.size ((List.range R.length).map fun i => (L.adr (R.getD i 0), pt (a i))) seen) ∧ Hid (Below w.heap.size w wr) ∧ W.heap.size + 1 ≤ wr.heap.size ∧ wr.cell? ⟨w.heap.size + 1, 0, none⟩ = some (.map (some w.heap.size)) ∧ wr.heap[D]? = some (.deferred (some []))) (fun wr => iterLeft wr W.heap.size)
    case atStart =>
      have hb0 := unhide HB0
      exact ⟨[], _, _, _, bT1, iT, hide ((unhide HB).trans (hb0.mono (unhide HB).size)), by simp, (hb0.cell (p := ⟨w.heap.size + 1, 0, none⟩) (block_lt v2)).trans v2, (hb0.block D (Array.getElem?_eq_some_iff.1 hD1).1).trans hD1⟩
    case round =>
      obtain ⟨seen, hb, hA, hc, hTB, hPI, hBw, hzw, c1, hDw⟩ := hrel
      have hpmW : w.heap.size < W.heap.size := by omega
      have hrw := (unhide hPI).it
      rcases run_next_pt (P := Try.prog) 0 (unhide hTB).map (unhide hPI) with ⟨hall, hnx⟩ | ⟨i, hi, V, hns, hnx, hPV, hgr⟩
      · have Hw := hide ((unhide HI).below (unhide hBw))
        have g0 := (unhide Hw).c0
        have g1 := (unhide Hw).c1
        have g2 := (unhide Hw).c2
        have g3 := (unhide Hw).c3
        have g4 := (unhide Hw).c4
        have HALL := hide hall
        clear hall hrw
        have CR : Hid (∀ V, Below wr.heap.size wr V → Calls Try.prog 38 #[.slice (some ⟨L.rb, 0, none⟩) T L.rcap] V fun e w' => ∃ v', e = .returned v' ∧ Below V.heap.size V w' ∧ w'.ownsRow V.heap.size 74 6 v' T ((List.range (T * 6)).map fun q => L.ptr (G.root (q / 6) (q % 6)))) := hide (fun V hV => by
          have hone := (unhide Hw).one
          refine cloneR (some ⟨L.rb, 0, none⟩) T L.rcap _ V (by simp) (fun u hu => ?_) (fun _ => ⟨L.rb, 0, rfl, fun j u hu => ?_⟩) (by omega)
          · obtain ⟨q, _, rfl⟩ := List.mem_map.1 hu
            unfold Lay.ptr
            split <;> rfl
          · obtain ⟨hj, rfl⟩ := List.getElem?_eq_some_iff.1 hu
            have hj : j < T * 6 := by simpa using hj
            have hr := ((unhide Hw).root (j / 6) (j % 6) (by omega) (by omega)).1
            rw [Nat.zero_add, show j / 6 * 6 + j % 6 = j by omega] at *
            rw [hV.cell (p := ⟨L.rb, j, none⟩) (block_lt hr), hr]
            simp)
        go_wp2
        refine wpIn_wide.2 ?_
        have lgw : L.g < wr.heap.size := block_lt g0
        go_wp2_with fail
        refine (unhide CR _ ((Below.refl _ _).alloc (Nat.le_refl _) _)).mono ?_
        rintro e w8 ⟨v8, rfl, hb8, ho8⟩
        obtain ⟨rb8, c8, rfl⟩ : ∃ g c, v8 = .slice (some ⟨g, 0, none⟩) T c := by
          have hone := (unhide Hw).one
          rcases ho8.2 with ⟨_, e⟩ | ⟨g, c, _, e, _⟩
          · omega
          · exact ⟨g, c, e⟩
        have hz8 := hb8.size
        simp only [World.size_alloc] at hz8
        have hcg : w8.heap[wr.heap.size]? = some (Obj.cells #[.int .i64 T, .int .i64 sp, .slice L.shA len L.shcap, .slice (some ⟨L.rb, 0, none⟩) T L.rcap, .int .i64 md] 64 (0, 0)) := (hb8.block wr.heap.size (by simp)).trans (MapKept.heap_alloc wr _).1
        have n3 : w8.cell? ⟨wr.heap.size, 3, none⟩ = some (.slice (some ⟨L.rb, 0, none⟩) T L.rcap) := by rw [Lib.cell_of_heap hcg]; rfl
        have nf3 : w8.frozen? ⟨wr.heap.size, 3, none⟩ = false := by simp [World.frozen?, hcg]
        have HCG := hide hcg
        have HO8 := hide ho8
        have HB8 := hide hb8
        clear hcg ho8 hb8
        go_wp2
        have hr0 : ∀ (t q : Nat), t < T → q < 6 → w8.cell? ⟨rb8, t * 6 + q, none⟩ = some (L.ptr (G.root t q)) ∧ w8.frozen? ⟨rb8, t * 6 + q, none⟩ = false := fun t q ht hq => by
          have hh := unhide HO8
          rcases hh.2 with ⟨e, _⟩ | ⟨g, c, cur, e, _, hg, _⟩
          · cases e
          · injection e with e _ _
            injection e with e
            injection e with e _ _
            subst e
            refine ⟨?_, by simp [World.frozen?, hg]⟩
            have := hh.cells (g := rb8) rfl (t * 6 + q) (L.ptr (G.root t q)) (by
              rw [List.getElem?_map, List.getElem?_range (by omega)]
              simp only [Option.map_some]
              rw [show (t * 6 + q) / 6 = t by omega, show (t * 6 + q) % 6 = q by omega])
            rwa [add_zero', Nat.zero_add] at this
        generalize hW9 : w8.setCell ⟨wr.heap.size, 3, none⟩ (.slice (some ⟨rb8, 0, none⟩) T c8) = w9
        have lrb8 := (unhide HO8).lt rb8 rfl
        simp only [World.size_alloc] at lrb8
        have hr9 : Hid (∀ (t q : Nat), t < T → q < 6 → w9.cell? ⟨rb8, t * 6 + q, none⟩ = some (L.ptr (G.root t q)) ∧ w9.frozen? ⟨rb8, t * 6 + q, none⟩ = false) := hide (fun t q ht hq => by
          rw [← hW9, set_other _ (.inl (by omega)), World.frozen?_setCell]
          exact hr0 t q ht hq)
        have hz9 : w9.heap.size = w8.heap.size := by rw [← hW9, World.size_setCell]
        have hcg9 := heap_setCell_same w8 wr.heap.size 3 _ _ (.slice (some ⟨rb8, 0, none⟩) T c8) (unhide HCG)
        rw [hW9] at hcg9
        have HCG9 := hide hcg9
        have m3 : w9.cell? ⟨wr.heap.size, 3, none⟩ = some (.slice (some ⟨rb8, 0, none⟩) T c8) := by rw [← hW9]; exact set_same _ n3
        have HB9 : Hid (Below wr.heap.size wr w9) := hide (by
          rw [← hW9]
          exact (((Below.refl _ _).alloc (Nat.le_refl _) _).trans ((unhide HB8).mono (by simp))).setCell (p := ⟨wr.heap.size, 3, none⟩) (Nat.le_refl _) _)
        have m1 : w9.cell? ⟨w.heap.size + 1, 0, none⟩ = some (.map (some w.heap.size)) := ((unhide HB9).cell (p := ⟨w.heap.size + 1, 0, none⟩) (block_lt c1)).trans c1
        clear hW9 hr0 n3 nf3 hcg9 HCG HO8 HB8
        obtain ⟨wq, hwq⟩ : ∃ wq, wq = wr := ⟨_, rfl⟩
        subst hwq
        go_loopw [75] (fun c wz => ∃ j : Nat, j ≤ T ∧ c = .int .i64 j ∧ Hid (∀ (t q : Nat), t < T → q < 6 → wz.cell? ⟨rb8, t * 6 + q, none⟩ = some (if t < j then twp a R (G.root t q) else L.ptr (G.root t q)) ∧ wz.frozen? ⟨rb8, t * 6 + q, none⟩ = false) ∧ Hid (Chg (fun c => c = rb8) w9 wz)) (fun c _ => T - (intOf c).toNat)
        case atStart => exact ⟨0, Nat.zero_le _, rfl, hide (fun t q ht hq => by rw [if_neg (Nat.not_lt_zero _)]; exact unhide hr9 t q ht hq), hide (Chg.refl _ _)⟩
        case round =>
          obtain ⟨j, hj, rfl, hcs, hCz⟩ := hrel
          have hone := (unhide HI).one
          have hzz := (unhide hCz).size
          have k3 : wr.cell? ⟨wq.heap.size, 3, none⟩ = some (.slice (some ⟨rb8, 0, none⟩) T c8) := ((unhide hCz).cell (o := 3) (block_lt m3) (fun e => by
            have e : wq.heap.size = rb8 := e
            omega)).trans m3
          by_cases hlt : j < T
          · have row : ∀ q, q < 6 → wr.cell? ⟨rb8, j * 6 + q, none⟩ = some (L.ptr (G.root j q)) := fun q hq => by
              have h := ((unhide hcs) j q hlt hq).1
              rw [if_neg (by omega)] at h
              exact h
            have r0 := row 0 (by omega)
            rw [Nat.add_zero] at r0
            have r1 := row 1 (by omega)
            have r2 := row 2 (by omega)
            have r3 := row 3 (by omega)
            have r4 := row 4 (by omega)
            have r5 := row 5 (by omega)
            have b0 : (0 : Int) ≤ (j : Int) := by omega
            have b1 : (j : Int) < (T : Int) := by omega
            go_wp2
            clear r0 r1 r2 r3 r4 r5 row
            go_loopw [83] (fun c wz => ∃ q : Nat, q ≤ 6 ∧ c = .int .i64 q ∧ Hid (∀ (t p : Nat), t < T → p < 6 → wz.cell? ⟨rb8, t * 6 + p, none⟩ = some (if t < j ∨ (t = j ∧ p < q) then twp a R (G.root t p) else L.ptr (G.root t p)) ∧ wz.frozen? ⟨rb8, t * 6 + p, none⟩ = false) ∧ Hid (Chg (fun c => c = rb8) w9 wz)) (fun c _ => 6 - (intOf c).toNat)
            case atStart => exact ⟨0, by omega, rfl, hide (fun t p ht hp => by
              have h := unhide hcs t p ht hp
              rwa [if_iff (show t < j ↔ (t < j ∨ (t = j ∧ p < 0)) from by omega)] at h), hCz⟩
            case round =>
              obtain ⟨q, hq, rfl, hcs2, hCz2⟩ := hrel
              have hzz2 := (unhide hCz2).size
              have k32 : wr.cell? ⟨wq.heap.size, 3, none⟩ = some (.slice (some ⟨rb8, 0, none⟩) T c8) := ((unhide hCz2).cell (o := 3) (block_lt m3) (fun e => by
                have e : wq.heap.size = rb8 := e
                omega)).trans m3
              by_cases hq6 : q < 6
              · have hBz : Below wq.heap.size wq wr := (unhide HB9).trans ((unhide hCz2).below (fun b e => by
                  have e : b = rb8 := e
                  omega) (by have := (unhide HB9).size; omega))
                have cm : wr.cell? ⟨w.heap.size + 1, 0, none⟩ = some (.map (some w.heap.size)) := (hBz.cell (p := ⟨w.heap.size + 1, 0, none⟩) (block_lt c1)).trans c1
                have e0 : ∀ s : Later wr, s.val.cell? ⟨wq.heap.size, 3, none⟩ = some (.slice (some ⟨rb8, 0, none⟩) T c8) := Later.cell (block_lt k32) k32
                have e1 : ∀ s : Later wr, s.val.cell? ⟨w.heap.size + 1, 0, none⟩ = some (.map (some w.heap.size)) := Later.cell (block_lt cm) cm
                have e2 : ∀ s : Later wr, (Instr.lookup 84 (.map (some w.heap.size)) (L.ptr (G.root j q)) false).run Try.prog s.val = .ok (twp a R (G.root j q)) s.val := fun s => by
                  have hPs := ((unhide hTB).map.keep hBz).keep s.ok
                  rcases (unhide HI).rinn j q hlt hq6 with h0 | hdy
                  · rw [h0]
                    exact run_lookup_nilp twin_und und_p hPs (ptr_z s.val)
                  · have hy0 : G.root j q ≠ 0 := by have := ((unhide HI).obj _ hdy).num.1; omega
                    have hyR : G.root j q ∈ R := by
                      rw [← hR]
                      exact reach_root hlt hq6 hy0
                    obtain ⟨j0, hj0, hsz⟩ := inf_o
                    have hcy : IsCells s.val (L.adr (G.root j q)) := ((((unhide Hw).obj _ hdy).cells).keep hBz).keep s.ok
                    have := run_lookup_pt (P := Try.prog) twin_und und_p hj0 hsz hPs hcy (ptr_z s.val)
                    rw [lookV_twp (S := S) (D := L.dom) (unhide HI).inj (fun z hz => ((unhide hro).2 z hz).2) hyR] at this
                    unfold twp Lay.ptr
                    rw [if_neg hy0, if_neg hy0]
                    exact this
                have e3 := e2 ⟨wr.drew, (Below.refl _ _).drew⟩
                have hidx : ∀ W : World, (Instr.index 74 (.agg #[L.ptr (G.root j 0), L.ptr (G.root j 1), L.ptr (G.root j 2), L.ptr (G.root j 3), L.ptr (G.root j 4), L.ptr (G.root j 5)]) (.int .i64 (q : Int))).run Try.prog W = .ok (L.ptr (G.root j q)) W := fun W => by
                  obtain rfl | rfl | rfl | rfl | rfl | rfl : q = 0 ∨ q = 1 ∨ q = 2 ∨ q = 3 ∨ q = 4 ∨ q = 5 := by omega
                  all_goals rfl
                have d0 : (0 : Int) ≤ (q : Int) := by omega
                have d1 : (q : Int) < 6 := by omega
                obtain ⟨hc5, hf5⟩ := unhide hcs2 j q hlt hq6
                rw [if_neg (by omega)] at hc5
                have HC5 := hide hc5
                clear hc5 hcs
                generalize hye : G.root j q = y at *
                have HYE := hide hye
                clear hye
                obtain ⟨o, hto⟩ : ∃ o, twp a R y = .pointer o := by
                  unfold twp
                  split
                  · exact ⟨_, rfl⟩
                  · exact ⟨_, rfl⟩
                rw [hto] at e2 e3
                have HTO := hide hto
                clear hto
                go_wp2_with fail
                refine wp_region_side_later [0, 0, 0, 0, 0, 0, 1, 0, 0, 2] 9 wr (by kernel_rfl) (by kernel_rfl) (by repeat (first | exact Below.refl _ _ | assumption | refine Below.alloc ?_ (by first | (simp; done) | (simp; omega) | omega) _ | refine Below.setCell ?_ (by first | (simp; done) | (simp; omega) | omega) _ | apply Below.drew | refine Below.trans ?_ (Below.mono (by assumption) (by first | (simp; done) | (simp; omega) | omega)))) ?_; simp only [kblk, List.map_cons, List.map_nil, Nat.reduceBNe, diesOps_f, diesOps_t, diesOps_nil, bne_self_eq_false]; (repeat (first | go_big_quiet_skip | (go_big_quiet_want; (first | ((fail); go_big_quiet_on; simp only [Act.put, List.setIfInBounds_toArray, List.set_cons_zero, List.set_cons_succ]) | (go_big_quiet_op; (first | go_big_quiet_on | go_big_quiet_call ((fail)))))))); refine wpQuiet_nil ?_; rw [show sideIdx [0, 0, 0, 0, 0, 0, 1, 0, 0, 2] 9 = [6] from by decide]; simp only [List.filterMap_cons, List.filterMap_nil, List.getElem?_cons_zero, List.getElem?_cons_succ]; (try simp only [applyP, List.nil_append, List.cons_append, List.foldl_cons, List.foldl_nil, Act.put, List.setIfInBounds_toArray, List.set_cons_zero, List.set_cons_succ]); unfold sideWp Oper.wpV; (try simp only [applyP, List.nil_append, List.cons_append, List.foldl_cons, List.foldl_nil, Act.put, List.setIfInBounds_toArray, List.set_cons_zero, List.set_cons_succ]); go_simp
                refine ⟨(Below.refl _ _).drew, ?_⟩
                unfold sideWp; simp only [applyP, List.nil_append, List.cons_append, List.foldl_cons, List.foldl_nil, Act.put, List.setIfInBounds_toArray, List.set_cons_zero, List.set_cons_succ, List.drop_succ_cons, List.drop_zero]
                have q5 : wr.drew.cell? ⟨rb8, j * 6 + q, none⟩ = some (L.ptr y) := by rw [World.cell?_drew]; exact unhide HC5
                have qf : wr.drew.frozen? ⟨rb8, j * 6 + q, none⟩ = false := by rw [World.frozen?_drew]; exact hf5
                clear e0 e1 e2 e3 hf5
                refine wpL_gen ?_
                intro Wd hWd
                have HWD := hide hWd
                rw [← hWd] at qf q5
                clear hWd
                go_wp2
                go_roundw
                case measure => simp [intOf]; omega
                case rel =>
                  refine ⟨q + 1, by omega, by go_num, hide (fun t p ht hp => ?_), hide ?_⟩
                  · have h := unhide hcs2 t p ht hp
                    by_cases e : t = j ∧ p = q
                    · obtain ⟨rfl, rfl⟩ := e
                      rw [if_pos (by omega), unhide HYE, unhide HTO]
                      exact ⟨set_same _ q5, by rw [World.frozen?_setCell]; exact qf⟩
                    · rw [if_iff (show (t < j ∨ (t = j ∧ p < q)) ↔ (t < j ∨ (t = j ∧ p < q + 1)) from by omega)] at h
                      rw [set_other _ (.inr (by omega)), World.frozen?_setCell, unhide HWD, World.cell?_drew, World.frozen?_drew]
                      exact h
                  · rw [unhide HWD]
                    exact ((unhide hCz2).drew).set (.inr rfl) _
              · obtain rfl : q = 6 := by omega
                go_wp2
                go_roundw
                case measure => simp [intOf]; omega
                case rel => exact ⟨j + 1, by omega, by go_num, hide (fun t p ht hp => by
                  have h := unhide hcs2 t p ht hp
                  rwa [if_iff (show (t < j ∨ (t = j ∧ p < 6)) ↔ t < j + 1 from by omega)] at h), hCz2⟩
          · obtain rfl : T = j := by omega
            have hBz : Below wq.heap.size wq wr := (unhide HB9).trans ((unhide hCz).below (fun b e => by
              have e : b = rb8 := e
              omega) (by have := (unhide HB9).size; omega))
            go_wp2
            refine ⟨by simp, .inl ⟨_, _, rfl, run_takeDeferred ((hBz.block D (Array.getElem?_eq_some_iff.1 hDw).1).trans hDw), ?_⟩⟩
            have hDl : D < wq.heap.size := (Array.getElem?_eq_some_iff.1 hDw).1
            have hBw := (unhide hBw)
            have hzq := hBw.size
            have hBF : Below w.heap.size w (wr.putObj D (.deferred none)) := (hBw.trans (hBz.mono hzq)).trans (belowK_b (w := w4) (by omega) wr D _ _ hD ((hBz.block D hDl).trans hDw) rfl rfl)
            have eo : ∀ b, b < wq.heap.size → b ≠ D → (wr.putObj D (.deferred none)).heap[b]? = wq.heap[b]? := fun b hb hne => (World.putObj_heap_other hne).trans (hBz.block b hb)
            have hrl := block_lt (unhide hcs 0 0 (by omega) (by omega)).1
            obtain ⟨L2, hg2, hI2, hown2, hsh2⟩ := TwB.isG (W := wr.putObj D (.deferred none)) ((unhide hTB).keep (fun b o hb hc => eo b (Array.getElem?_eq_some_iff.1 hb).1 (fun e => by
              subst e
              rcases hc with e | hc
              · rw [e, (unhide hTB).map.1] at hDw
                cases hDw
              · rw [hb] at hDw
                cases hDw
                cases hc))) (fun i hi => unhide HALL i (by simpa using hi)) ((unhide HI).below hBF) hR (g := wq.heap.size) (rb := rb8) (rcap := c8) (by omega) (fun i hi hs => by
                obtain ⟨_, _, ⟨c, hc⟩, _⟩ := (unhide hTB).held i hi (unhide HALL i (by simpa using hi)) hs
                exact (Array.getElem?_eq_some_iff.1 hc).1) (by omega) (by simp only [World.putObj, Array.size_setIfInBounds]; exact hrl) (by
                rw [World.putObj_heap_other (by omega)]
                exact ((unhide hCz).block wq.heap.size (by have := (unhide HCG9); exact (Array.getElem?_eq_some_iff.1 this).1) (fun e => by
                  have e : wq.heap.size = rb8 := e
                  omega)).trans ((unhide HCG9).trans (by simp))) (fun t q ht hq => by
                have h := unhide hcs t q ht hq
                rw [if_pos ht] at h
                have e : (wr.putObj D (.deferred none)).heap[rb8]? = wr.heap[rb8]? := World.putObj_heap_other (by omega)
                exact ⟨(World.cell?_of_block (a := ⟨rb8, _, none⟩) e).trans h.1, by
                  have := h.2
                  unfold World.frozen? at this ⊢
                  rw [e]
                  exact this⟩) (by omega) (by omega) (fun b hb => by
                obtain ⟨g, o, e, hgl, _⟩ := (unhide HI).shp (by have := (unhide HI).ok.tab.1; omega)
                rw [e] at hb
                injection hb with hb
                subst hb
                show g < _
                omega)
            refine ⟨_, results_tmp rfl _ _ _, L2, by rw [hg2]; rfl, hBF, hI2, fun b hb => by have := hown2 b hb; omega, hsh2⟩
      · simp only [List.getElem_map, List.getElem_range] at hnx
        have hiR : i < R.length := by simpa using hi
        have hent := run_entry_pt (P := Try.prog) hi ((unhide hTB).map.chg (Z := fun c => c = W.heap.size) (Chg.gr hgr rfl) (by omega) (fun x hx => fun e => by
          obtain ⟨cs, t, hh⟩ := (unhide hTB).map.2 x hx
          rw [e, hrw] at hh
          cases hh)) hPV
        simp only [List.getElem_map, List.getElem_range] at hent
        have hzV := hgr.size
        have eV : ∀ b, b < wr.heap.size → b ≠ W.heap.size → V.heap[b]? = wr.heap[b]? := fun b hb hne => hgr.block b hb (fun e => hne (by first | (injection e; done) | (injection e with e; exact e) | (injection e with e; exact e.symm)))
        have hTV := hide ((unhide hTB).keep (V := V) (fun b o hb hc => eV b (Array.getElem?_eq_some_iff.1 hb).1 (fun e => by
          subst e
          rcases hc with e | hc
          · omega
          · rw [hrw] at hb
            cases hb
            cases hc)))
        have hBV := hide ((unhide hBw).grown hgr (by omega) (fun r e => by injection e with e; omega))
        have c1V : V.cell? ⟨w.heap.size + 1, 0, none⟩ = some (.map (some w.heap.size)) := (World.cell?_of_block (a := ⟨w.heap.size + 1, 0, none⟩) (eV (w.heap.size + 1) (by omega) (by omega))).trans c1
        have hDV : V.heap[D]? = some (.deferred (some [])) := (eV D (Array.getElem?_eq_some_iff.1 hDw).1 (fun e => by rw [e, hrw] at hDw; cases hDw)).trans hDw
        have hleft : iterLeft V W.heap.size < iterLeft wr W.heap.size := by
          rw [hPV.left, (unhide hPI).left]
          have := hPV.len
          simp only [List.length_append, List.length_cons, List.length_nil] at this ⊢
          omega
        have HPV := hide hPV
        clear hTB hPI hBw c1 hDw hrw hgr eV hPV
        have hmem : R.getD i 0 ∈ R := by rw [getD_at hiR]; exact List.getElem_mem hiR
        have hd := (unhide hro).2 _ hmem
        generalize hxe : R.getD i 0 = x at hnx hent hd
        simp only [pt] at hnx hent
        have HV := hide ((unhide HI).below (unhide hBV))
        have hO := (unhide HV).obj x hd.2
        have o1 := hO.c1
        have HXE := hide hxe
        clear hxe hmem hO
        go_wp2
        have lai : a i < V.heap.size := (Array.getElem?_eq_some_iff.1 ((unhide hTV).obj i hiR).1).1
        have hob := ((unhide hTV).obj i hiR).1
        rw [unhide HXE, if_neg hns] at hob
        have hlt8 : (S (G.sh x)).size ≤ 8 := h8 _ ((unhide HI).ok.sh x ((unhide HV).obj x hd.2).num.1 ((unhide HV).obj x hd.2).num.2)
        have c1V' := hide c1V
        go_loopw [46] (fun q wr => ∃ (f : Nat) (v : Value), f ≤ (S (G.sh x)).size ∧ q = .int .i64 f ∧ wr.heap[a i]? = some (Obj.cells #[.int .i64 (G.sh x), v, .slice (iA i) (S (G.sh x)).size (ic i)] 91 (0, 0)) ∧ Hid (wr.ownsRow V.heap.size 71 1 v f ((List.range f).map fun g => twp a R (G.held S x g))) ∧ Hid (Chg (fun c => c = a i) V wr)) (fun q _ => (S (G.sh x)).size - (intOf q).toNat)
        case atStart => exact ⟨0, _, Nat.zero_le _, rfl, hob, hide (World.ownsRow_nil _ _ _ _), hide (Chg.refl _ _)⟩
        case round =>
          obtain ⟨f, v, hf, rfl, hobw, hOw, hCw⟩ := hrel
          by_cases hlt : f < (S (G.sh x)).size
          · have hO := (unhide HV).obj x hd.2
            have hpos := (hO.pos (by omega)).1
            rw [hpos]
            have hne : L.hb x ≠ a i := fun e => by
              have := (unhide HI).lt (L.hb x) (by rw [(hO.pos (by omega)).2.2.1]; simp)
              have := ((unhide hTV).obj i hiR).2.1
              omega
            have hcell := ((unhide hCw).cell (o := f) (block_lt (hO.held f hlt).1) hne).trans (hO.held f hlt).1
            have hzw2 := (unhide hCw).size
            have hown : ∀ c, v.ownBlock = some c → V.heap.size ≤ c := fun c hc => ((unhide hOw).lt c hc).1
            have e0 : ∀ s : Chd (fun c => v.ownBlock = some c) wr, s.val.cell? ⟨a i, 1, none⟩ = some v := Chd.cell (by omega) (fun h => by have := hown _ h; omega) (by rw [Lib.cell_of_heap hobw]; rfl)
            have e1 : ∀ s : Chd (fun c => v.ownBlock = some c) wr, s.val.cell? ⟨w.heap.size + 1, 0, none⟩ = some (.map (some w.heap.size)) := Chd.cell (by omega) (fun h => by have := hown _ h; omega) (((unhide hCw).cell (o := 0) (by omega) (fun e => by have := ((unhide hTV).obj i hiR).2.1; omega)).trans c1V)
            have e2 : ∀ s : Chd (fun c => v.ownBlock = some c) wr, (Instr.lookup 84 (.map (some w.heap.size)) (L.ptr (G.held S x f)) false).run Try.prog s.val = .ok (twp a R (G.held S x f)) s.val := fun s => by
              have hkey : ∀ q ∈ ((List.range R.length).map fun i => (L.adr (R.getD i 0), pt (a i))), q.1 < w.heap.size := fun q hq => by
                obtain ⟨j, hj, rfl⟩ := List.mem_map.1 hq
                have hj := List.mem_range.1 hj
                exact ((unhide HI).obj _ ((unhide hro).2 _ (by rw [getD_at hj]; exact List.getElem_mem hj)).2).lt
              have lb := ((unhide hTV).obj i hiR).2.1
              have hPs := ((unhide hTV).map.chg (unhide hCw) (by omega) (fun q hq => by have := hkey q hq; omega)).chg s.ok (fun h => by have := hown _ h; omega) (fun q hq h => by have := hkey q hq; have := hown _ h; omega)
              rcases hO.inn f hlt with h0 | hdy
              · rw [h0]
                exact run_lookup_nilp twin_und und_p hPs (ptr_z s.val)
              · have hy0 : G.held S x f ≠ 0 := by have := ((unhide HI).obj _ hdy).num.1; omega
                have hyR : G.held S x f ∈ R := by
                  have hxR : x ∈ R := by rw [← unhide HXE, getD_at hiR]; exact List.getElem_mem hiR
                  rw [← hR] at hxR ⊢
                  exact reach_held (unhide HI).isIn hxR hlt hy0
                obtain ⟨j0, hj0, hsz⟩ := inf_o
                have hcy : IsCells s.val (L.adr (G.held S x f)) := by
                  have h1 := (unhide HI).obj _ hdy
                  have hl := h1.lt
                  exact ((((unhide HV).obj _ hdy).cells).chg (unhide hCw) (by omega)).chg s.ok (fun h => by have := hown _ h; omega)
                have := run_lookup_pt (P := Try.prog) twin_und und_p hj0 hsz hPs hcy (ptr_z s.val)
                rw [lookV_twp (S := S) (D := L.dom) (unhide HI).inj (fun z hz => ((unhide hro).2 z hz).2) hyR] at this
                unfold twp Lay.ptr
                rw [if_neg hy0, if_neg hy0]
                exact this
            have e3 := e2 ⟨wr.drew, (Chg.refl _ _).drew⟩
            have b0 : (0 : Int) ≤ (f : Int) := by omega
            have b1 : (f : Int) < ((S (G.sh x)).size : Int) := by omega
            generalize hhe : G.held S x f = y at *
            obtain ⟨o, hto⟩ : ∃ o, twp a R y = .pointer o := by
              unfold twp
              split
              · exact ⟨_, rfl⟩
              · exact ⟨_, rfl⟩
            rw [hto] at e2 e3
            have HTO := hide hto
            clear hto
            clear hO hpos
            go_wp2_with fail
            refine wp_region_side_chd [0, 0, 0, 0, 0, 0, 0, 1, 1, 1, 0, 0, 2] 12 (fun c => v.ownBlock = some c) wr (by kernel_rfl) (by kernel_rfl) ((Chg.refl _ _).drew) ?_; simp only [kblk, List.map_cons, List.map_nil, Nat.reduceBNe, diesOps_f, diesOps_t, diesOps_nil, bne_self_eq_false]; (repeat (first | go_big_quiet_skip | (go_big_quiet_want; (first | ((fail); go_big_quiet_on; simp only [Act.put, List.setIfInBounds_toArray, List.set_cons_zero, List.set_cons_succ]) | (go_big_quiet_op; (first | go_big_quiet_on | go_big_quiet_call ((fail)))))))); refine wpQuiet_nil ?_; rw [show sideIdx [0, 0, 0, 0, 0, 0, 0, 1, 1, 1, 0, 0, 2] 12 = [7, 8, 9] from by decide]; simp only [List.filterMap_cons, List.filterMap_nil, List.getElem?_cons_zero, List.getElem?_cons_succ]; (try simp only [applyP, List.nil_append, List.cons_append, List.foldl_cons, List.foldl_nil, Act.put, List.setIfInBounds_toArray, List.set_cons_zero, List.set_cons_succ]); unfold sideWp Oper.wpV; (try simp only [applyP, List.nil_append, List.cons_append, List.foldl_cons, List.foldl_nil, Act.put, List.setIfInBounds_toArray, List.set_cons_zero, List.set_cons_succ]); go_simp
            refine ⟨(Chg.refl _ _).drew, ?_⟩
            (try simp only [applyP, List.nil_append, List.cons_append, List.foldl_cons, List.foldl_nil, Act.put, List.setIfInBounds_toArray, List.set_cons_zero, List.set_cons_succ]); unfold sideWp Oper.wpV; (try simp only [applyP, List.nil_append, List.cons_append, List.foldl_cons, List.foldl_nil, Act.put, List.setIfInBounds_toArray, List.set_cons_zero, List.set_cons_succ]); go_simp
            refine ⟨((Chg.refl _ _).drew).alloc _, ?_⟩
            unfold sideWp
            simp only [applyP, List.nil_append, List.cons_append, List.foldl_cons, List.foldl_nil, Act.put, List.setIfInBounds_toArray, List.set_cons_zero, List.set_cons_succ]
            obtain ⟨i0, hi0, hz0, hz1, hz3⟩ := inf_p
            refine wpV_append (.tmp 54) (.tmp 58) _ rfl V.heap.size 71 i0 (.pointer none) 1 8 Try.underlying88 hi0 hz0 hz1 hz3 rfl (by decide) _ _ _ rfl (((unhide hOw).kept (grown_below ((Below.refl _ _).drew) none) (by cases v.ownBlock <;> simp)).alloc _) ⟨wr.heap.size, 0, none⟩ 1 1 [.pointer o] rfl rfl ?c1 ?c2 ?c3 ?c4 ?c5 ?_
            case c1 => exact fun j u h => new_cells wr [.pointer o] _ j u h
            case c2 => simp [Value.oneCell']
            case c3 => simp only [maxLen]; omega
            case c4 => omega
            case c5 =>
              show V.heap.size ≤ (wr.alloc _).heap.size
              simp
              omega
            intro v' w7 how hgr
            have hgr : (wr.alloc (.cells #[.pointer o] 71)).drew.grownBy w7 v.ownBlock := hgr
            have hc7 : Chg (fun c => v.ownBlock = some c) wr w7 := (((Chg.refl _ _).alloc _).drew).trans (grow_chg hgr)
            refine ⟨hc7, ?_⟩
            unfold sideWp; simp only [applyP, List.nil_append, List.cons_append, List.foldl_cons, List.foldl_nil, Act.put, List.setIfInBounds_toArray, List.set_cons_zero, List.set_cons_succ, List.drop_succ_cons, List.drop_zero]
            have hz7 := hc7.size
            have lair : a i < wr.heap.size := by omega
            have nz : ¬ v.ownBlock = some (a i) := fun h => by have := hown _ h; omega
            have hob7 := (hc7.block (a i) lair nz).trans hobw
            have q1 : w7.cell? ⟨a i, 1, none⟩ = some v := by rw [Lib.cell_of_heap hob7]; rfl
            have qf : w7.frozen? ⟨a i, 1, none⟩ = false := by simp [World.frozen?, hob7]
            have hC7 : Chg (fun c => c = a i) V w7 := ⟨hc7.os.trans (unhide hCw).os, hc7.tape.trans (unhide hCw).tape, hc7.output.trans (unhide hCw).output, by omega, fun j hj hne => (hc7.block j (by omega) (fun h => by have := hown j h; omega)).trans ((unhide hCw).block j hj hne)⟩
            have HR := hide (how.kept (set_grown w7 (a i) 1 v') (by
              cases e : v'.ownBlock with
              | none => exact .inl rfl
              | some j => exact .inr (fun h => by injection h with h; have := (how.lt j e).1; omega)))
            have h3f : (∃ A n c, v' = .slice A n c) := by
              rcases how.2 with ⟨e, _⟩ | ⟨g9, c9, _, e, _⟩
              · exact ⟨_, _, _, e⟩
              · exact ⟨_, _, _, e⟩
            obtain ⟨A7, n7, c7, rfl⟩ := h3f
            have hst := heap_setCell_same w7 (a i) 1 _ _ (.slice A7 n7 c7) hob7
            have HST := hide hst
            have HC7 := hide hC7
            clear how hgr hc7 hC7 hst hobw hob7 e0 e1 e2 e3 hcell hob
            go_wp2
            go_roundw
            case measure => simp [intOf]; omega
            case rel =>
              refine ⟨f + 1, .slice A7 n7 c7, by omega, by go_num, (unhide HST).trans (by simp), hide ?_, hide ((unhide HC7).set (.inr rfl) _)⟩
              rw [List.range_succ, List.map_append, List.map_cons, List.map_nil, hhe, unhide HTO]
              exact unhide HR
          · obtain rfl : f = (S (G.sh x)).size := by omega
            have hr := unhide hOw
            obtain ⟨A9, c9, hv9, hfm⟩ := row_form (W := wr) (base := V.heap.size) (e := 71) (v := v) (xs := (List.range (S (G.sh x)).size).map fun g => twp a R (G.held S x g)) (by rw [List.length_map, List.length_range]; exact hr)
            simp only [List.length_map, List.length_range] at hv9
            subst hv9
            have hTB2 := (unhide hTV).more (V := wr) hiR hns (by omega) (by have := ((unhide hTV).obj i hiR).2.1; omega) (fun z hz e => by
                have h1 := (unhide HI).obj z ((unhide hro).2 z hz).2
                have := h1.lt
                have := ((unhide hTV).obj i hiR).2.1
                omega) (fun b hb hne => (unhide hCw).block b hb hne) (vA := A9) (vb := blkOf A9) (vc := c9) (by rw [unhide HXE]; exact hobw) (fun hs => by
                rw [unhide HXE] at hs ⊢
                obtain ⟨g, hg, _, cur, hcur⟩ := hfm 0 (twp a R (G.held S x 0)) (by simp [hs])
                subst hg
                refine ⟨rfl, (hr.lt g rfl).1, ⟨cur, hcur⟩, fun q hq => ?_⟩
                obtain ⟨g', hg', hc, _⟩ := hfm q (twp a R (G.held S x q)) (by simp [hq])
                injection hg' with hg'
                injection hg' with hg' _ _
                subst hg'
                exact hc)
            have HTB2 := hide hTB2
            have lra : a i < W.heap.size := ((unhide hTV).obj i hiR).2.2
            have lbase := ((unhide hTV).obj i hiR).2.1
            have hzw2 := (unhide hCw).size
            have eW : ∀ b, b < V.heap.size → b ≠ a i → wr.heap[b]? = V.heap[b]? := fun b hb hne => (unhide hCw).block b hb hne
            have lW : W.heap.size < V.heap.size := (Array.getElem?_eq_some_iff.1 (unhide HPV).it).1
            have HP2 := hide ((unhide HPV).chg (Z := fun c => c = a i) (V := wr) (fun b hb hne => eW b hb hne) (by omega))
            have HB2 := hide ((unhide hBV).trans ((unhide hCw).below (n := w.heap.size) (fun b e => by omega) (by omega)))
            have c1w : wr.cell? ⟨w.heap.size + 1, 0, none⟩ = some (.map (some w.heap.size)) := (World.cell?_of_block (a := ⟨w.heap.size + 1, 0, none⟩) (eW (w.heap.size + 1) (by omega) (by omega))).trans c1V
            have hDa : D ≠ a i := fun e => by
              have := ((unhide hTV).obj i hiR).1
              rw [← e, hDV] at this
              cases this
            have hDw2 : wr.heap[D]? = some (.deferred (some [])) := (eW D (Array.getElem?_eq_some_iff.1 hDV).1 hDa).trans hDV
            have hil : iterLeft wr W.heap.size = iterLeft V W.heap.size := by
              unfold iterLeft
              rw [eW _ lW (by omega)]
            clear hTB2 hr hfm hobw eW c1V hob
            go_wp2
            go_roundw
            case measure => rw [hil]; exact hleft
            case rel => exact ⟨seen ++ [i], _, _, _, HTB2, HP2, HB2, by omega, c1w, hDw2⟩
end
end Go.Proofs.Ytbkaopeajjechaa
