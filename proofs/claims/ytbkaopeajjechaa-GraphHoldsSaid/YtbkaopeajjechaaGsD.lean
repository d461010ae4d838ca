/- The copy of a graph, plainly: where it lies, and that it is one. No walk in sight. -/
import Derived.Test.YtbkaopeajjechaaGsC
namespace Go.Proofs.Ytbkaopeajjechaa
set_option linter.unusedVariables false
set_option linter.unusedSimpArgs false
open Go.RowKit Go.Maps

section
variable {T : Nat} {sp : Int} {len : Nat} {S : Nat → ByteArray} {w W V : World} {G : Gr} {L : Lay} {md : Int}
variable {R : List Nat} {base b2 pm : Nat} {seen : List Nat} {a ib ic hb hc : Nat → Nat} {iA hA : Nat → Option Addr}

open Classical in
/-- Where the copy lies. -/
noncomputable def twinLay (L : Lay) (S : Nat → ByteArray) (G : Gr) (g rb rcap : Nat) (R : List Nat) (a ib : Nat → Nat) (iA : Nat → Option Addr) (ic hb : Nat → Nat) (hA : Nat → Option Addr) (hc : Nat → Nat) : Lay where
  g := g
  rb := rb
  rcap := rcap
  shA := L.shA
  shcap := L.shcap
  adr := fun x => a (R.idxOf x)
  hb := fun x => hb (R.idxOf x)
  hA := fun x => hA (R.idxOf x)
  hc := fun x => hc (R.idxOf x)
  ib := fun x => ib (R.idxOf x)
  iA := fun x => iA (R.idxOf x)
  ic := fun x => ic (R.idxOf x)
  dom := fun x => x ∈ R
  tag := fun b => if b = g then .gr else if b = rb then .ro
    else if h : ∃ x, x ∈ R ∧ a (R.idxOf x) = b then .ob (Classical.choose h)
    else if h : ∃ x, x ∈ R ∧ 0 < (S (G.sh x)).size ∧ hb (R.idxOf x) = b then .he (Classical.choose h)
    else if h : ∃ x, x ∈ R ∧ 0 < (S (G.sh x)).size ∧ ib (R.idxOf x) = b then .it (Classical.choose h) else .no

theorem idx_getD {x : Nat} (h : x ∈ R) : R.idxOf x < R.length ∧ R.getD (R.idxOf x) 0 = x := by
  have hl := List.idxOf_lt_length_of_mem h
  exact ⟨hl, by rw [getD_at hl, List.getElem_idxOf]⟩

theorem idx_inj {x y : Nat} (hx : x ∈ R) (hy : y ∈ R) (e : R.idxOf x = R.idxOf y) : x = y := by
  rw [← (idx_getD hx).2, ← (idx_getD hy).2, e]

theorem TwB.isG (hT : TwB S G L R base b2 pm W seen a ib iA ic hb hA hc) (hall : ∀ i, i < R.length → i ∈ seen) (hI : IsG T sp len S W L G md) (hR : G.reach T S = R)
    {g rb rcap : Nat} (hlt : b2 ≤ g) (hlt2 : ∀ i, i < R.length → 0 < (S (G.sh (R.getD i 0))).size → hb i < g) (hrb : g < rb) (hrl : rb < W.heap.size)
    (hg : W.heap[g]? = some (Obj.cells #[.int .i64 T, .int .i64 sp, .slice L.shA len L.shcap, .slice (some ⟨rb, 0, none⟩) T rcap, .int .i64 md] 64 (0, 0)))
    (hro : ∀ t q, t < T → q < 6 → W.cell? ⟨rb, t * 6 + q, none⟩ = some (twp a R (G.root t q)) ∧ W.frozen? ⟨rb, t * 6 + q, none⟩ = false)
    (hb0 : base ≤ g) (hb1 : base ≤ b2) (hsn : ∀ b, L.shA = some b → b.block < base) :
    ∃ L2, L2.g = g ∧ IsG T sp len S W L2 G md ∧ (∀ b, L2.own b → base ≤ b) ∧ L2.shA = L.shA := by
  have hla : ∀ x, x ∈ R → base ≤ a (R.idxOf x) ∧ a (R.idxOf x) < b2 := fun x hx => (hT.obj _ (idx_getD hx).1).2
  have hlh : ∀ x, x ∈ R → 0 < (S (G.sh x)).size → b2 ≤ hb (R.idxOf x) ∧ hb (R.idxOf x) < g := fun x hx hs => by
    obtain ⟨h1, h2⟩ := idx_getD hx
    have hs' : 0 < (S (G.sh (R.getD (R.idxOf x) 0))).size := by rw [h2]; exact hs
    exact ⟨(hT.held _ h1 (hall _ h1) hs').2.1, hlt2 _ h1 hs'⟩
  have hli : ∀ x, x ∈ R → 0 < (S (G.sh x)).size → base ≤ ib (R.idxOf x) ∧ ib (R.idxOf x) < a (R.idxOf x) := fun x hx hs => by
    obtain ⟨h1, h2⟩ := idx_getD hx
    have hs' : 0 < (S (G.sh (R.getD (R.idxOf x) 0))).size := by rw [h2]; exact hs
    have h := hT.ints _ h1 hs'
    exact ⟨h.2.1, h.2.2.1⟩
  have nai : ∀ x y, x ∈ R → y ∈ R → 0 < (S (G.sh y)).size → a (R.idxOf x) ≠ ib (R.idxOf y) := fun x y hx hy hs => by
    obtain ⟨h1, h2⟩ := idx_getD hx
    obtain ⟨h3, h4⟩ := idx_getD hy
    by_cases e : R.idxOf x = R.idxOf y
    · rw [e]
      have := hli y hy hs
      omega
    · exact (hT.ne h1 h3 e).2 (by rw [h4]; exact hs)
  have iaa : ∀ x y, x ∈ R → y ∈ R → a (R.idxOf x) = a (R.idxOf y) → x = y := fun x y hx hy e => by
    by_cases e2 : R.idxOf x = R.idxOf y
    · exact idx_inj hx hy e2
    · exact absurd e (hT.ne (idx_getD hx).1 (idx_getD hy).1 e2).1
  have ihh : ∀ x y, x ∈ R → y ∈ R → 0 < (S (G.sh x)).size → 0 < (S (G.sh y)).size → hb (R.idxOf x) = hb (R.idxOf y) → x = y := fun x y hx hy h1 h2 e => by
    by_cases e2 : R.idxOf x = R.idxOf y
    · exact idx_inj hx hy e2
    · exact absurd e (hT.dis _ _ (idx_getD hx).1 (idx_getD hy).1 (hall _ (idx_getD hx).1) (hall _ (idx_getD hy).1) e2 (by rw [(idx_getD hx).2]; exact h1) (by rw [(idx_getD hy).2]; exact h2))
  have iii : ∀ x y, x ∈ R → y ∈ R → 0 < (S (G.sh x)).size → 0 < (S (G.sh y)).size → ib (R.idxOf x) = ib (R.idxOf y) → x = y := fun x y hx hy h1 h2 e => by
    have hx1 := idx_getD hx
    have hy1 := idx_getD hy
    have k1 := hli x hx h1
    have k2 := hli y hy h2
    rcases Nat.lt_trichotomy (R.idxOf x) (R.idxOf y) with e2 | e2 | e2
    · have := (hT.ord _ _ e2 hy1.1).2 (by rw [hy1.2]; exact h2)
      omega
    · exact idx_inj hx hy e2
    · have := (hT.ord _ _ e2 hx1.1).2 (by rw [hx1.2]; exact h1)
      omega
  generalize hL2 : twinLay L S G g rb rcap R a ib iA ic hb hA hc = L2
  have eg : L2.g = g := by rw [← hL2]; rfl
  have erb : L2.rb = rb := by rw [← hL2]; rfl
  have erc : L2.rcap = rcap := by rw [← hL2]; rfl
  have esA : L2.shA = L.shA := by rw [← hL2]; rfl
  have esc : L2.shcap = L.shcap := by rw [← hL2]; rfl
  have ea : ∀ x, L2.adr x = a (R.idxOf x) := fun x => by rw [← hL2]; rfl
  have eh : ∀ x, L2.hb x = hb (R.idxOf x) := fun x => by rw [← hL2]; rfl
  have ehA : ∀ x, L2.hA x = hA (R.idxOf x) := fun x => by rw [← hL2]; rfl
  have ehc : ∀ x, L2.hc x = hc (R.idxOf x) := fun x => by rw [← hL2]; rfl
  have ei : ∀ x, L2.ib x = ib (R.idxOf x) := fun x => by rw [← hL2]; rfl
  have eiA : ∀ x, L2.iA x = iA (R.idxOf x) := fun x => by rw [← hL2]; rfl
  have eic : ∀ x, L2.ic x = ic (R.idxOf x) := fun x => by rw [← hL2]; rfl
  have ed : ∀ x, L2.dom x = (x ∈ R) := fun x => by rw [← hL2]; rfl
  have ep : ∀ x, L2.ptr x = twp a R x := fun x => by
    unfold Lay.ptr twp
    rw [ea]
  have et : L2.tag = (twinLay L S G g rb rcap R a ib iA ic hb hA hc).tag := by rw [← hL2]
  have tg : L2.tag g = .gr := by rw [et]; exact if_pos rfl
  have tr : L2.tag rb = .ro := by
    rw [et]
    unfold twinLay
    dsimp only
    rw [if_neg (by omega), if_pos rfl]
  have ta : ∀ x, x ∈ R → L2.tag (a (R.idxOf x)) = .ob x := fun x hx => by
    have h1 := hla x hx
    have hex : ∃ y, y ∈ R ∧ a (R.idxOf y) = a (R.idxOf x) := ⟨x, hx, rfl⟩
    rw [et]
    unfold twinLay
    dsimp only
    rw [if_neg (by omega), if_neg (by omega), dif_pos hex]
    have := Classical.choose_spec hex
    rw [iaa _ _ this.1 hx this.2]
  have th : ∀ x, x ∈ R → 0 < (S (G.sh x)).size → L2.tag (hb (R.idxOf x)) = .he x := fun x hx hs => by
    have h1 := hlh x hx hs
    have hex : ∃ y, y ∈ R ∧ 0 < (S (G.sh y)).size ∧ hb (R.idxOf y) = hb (R.idxOf x) := ⟨x, hx, hs, rfl⟩
    rw [et]
    unfold twinLay
    dsimp only
    rw [if_neg (by omega), if_neg (by omega), dif_neg (fun h => by
      obtain ⟨y, hy, e⟩ := h
      have := hla y hy
      omega), dif_pos hex]
    have := Classical.choose_spec hex
    rw [ihh _ _ this.1 hx this.2.1 hs this.2.2]
  have ti : ∀ x, x ∈ R → 0 < (S (G.sh x)).size → L2.tag (ib (R.idxOf x)) = .it x := fun x hx hs => by
    have h1 := hli x hx hs
    have h2 := hla x hx
    have hex : ∃ y, y ∈ R ∧ 0 < (S (G.sh y)).size ∧ ib (R.idxOf y) = ib (R.idxOf x) := ⟨x, hx, hs, rfl⟩
    rw [et]
    unfold twinLay
    dsimp only
    rw [if_neg (by omega), if_neg (by omega), dif_neg (fun h => by
      obtain ⟨y, hy, e⟩ := h
      exact nai y x hy hx hs e), dif_neg (fun h => by
      obtain ⟨y, hy, hs', e⟩ := h
      have := hlh y hy hs'
      omega), dif_pos hex]
    have := Classical.choose_spec hex
    rw [iii _ _ this.1 hx this.2.1 hs this.2.2]
  have own : ∀ b, L2.tag b ≠ .no → base ≤ b ∧ b < W.heap.size := fun b hb' => by
    by_cases e1 : b = g
    · omega
    by_cases e2 : b = rb
    · omega
    rw [et] at hb'
    unfold twinLay at hb'
    dsimp only at hb'
    rw [if_neg e1, if_neg e2] at hb'
    by_cases h1 : ∃ x, x ∈ R ∧ a (R.idxOf x) = b
    · obtain ⟨x, hx, rfl⟩ := h1
      have := hla x hx
      omega
    by_cases h2 : ∃ x, x ∈ R ∧ 0 < (S (G.sh x)).size ∧ hb (R.idxOf x) = b
    · obtain ⟨x, hx, hs, rfl⟩ := h2
      have := hlh x hx hs
      omega
    by_cases h3 : ∃ x, x ∈ R ∧ 0 < (S (G.sh x)).size ∧ ib (R.idxOf x) = b
    · obtain ⟨x, hx, hs, rfl⟩ := h3
      have := hli x hx hs
      have := hla x hx
      omega
    rw [dif_neg h1, dif_neg h2, dif_neg h3] at hb'
    exact absurd rfl hb'
  have hin := hI.isIn
  have hrk := reach_ok hin
  rw [hR] at hrk
  refine ⟨L2, eg, ⟨hI.ok, ?_, ?_, ?_, ?_, ?_, ?_, by rw [eg]; exact tg, by rw [erb]; exact tr, by rw [esA]; exact hI.shp, fun b hb' => ?_, fun t q ht hq => ?_, fun t q ht hq => ?_, fun x hx => ?_, fun b hb' => (own b hb').2, hI.one⟩, fun b hb' => (own b hb').1, esA⟩
  · rw [eg, Lib.cell_of_heap hg]; rfl
  · rw [eg, Lib.cell_of_heap hg]; rfl
  · rw [eg, Lib.cell_of_heap hg, esA, esc]; rfl
  · rw [eg, Lib.cell_of_heap hg, erb, erc]; rfl
  · rw [eg, Lib.cell_of_heap hg]; rfl
  · rw [eg]; simp [World.frozen?, hg]
  · rw [esA] at hb'
    have := hsn b hb'
    apply Classical.byContradiction
    intro e
    have := own _ e
    omega
  · rw [erb, ep]
    exact hro t q ht hq
  · by_cases e : G.root t q = 0
    · exact .inl e
    · exact .inr (by rw [ed, ← hR]; exact reach_root ht hq e)
  · rw [ed] at hx
    obtain ⟨hi, hxe⟩ := idx_getD hx
    have hO := hI.obj x (hrk.2 x hx).2
    have ho := (hT.obj _ hi).1
    rw [if_pos (hall _ hi), hxe] at ho
    have hin1 := hT.ints _ hi
    have hhe1 := hT.held _ hi (hall _ hi)
    rw [hxe] at hin1 hhe1
    refine ⟨hO.num, ?_, ?_, ?_, ?_, ?_, fun hp => ?_, fun f hf => ?_, fun f hf => ?_, fun f hf => ?_⟩
    · rw [ea]; exact ⟨_, _, ho⟩
    · rw [ea, Lib.cell_of_heap ho]; rfl
    · rw [ea, Lib.cell_of_heap ho, ehA, ehc]; rfl
    · rw [ea, Lib.cell_of_heap ho, eiA, eic]; rfl
    · rw [ea]; exact ta x hx
    · rw [ehA, eiA, eh, ei]
      exact ⟨(hhe1 hp).1, (hin1 hp).1, th x hx hp, ti x hx hp⟩
    · obtain ⟨_, _, ⟨c, hcc⟩, h4⟩ := hhe1 (by omega)
      rw [eh, ep]
      exact ⟨h4 f hf, by simp [World.frozen?, hcc]⟩
    · obtain ⟨_, _, _, ⟨c, hcc⟩, h4⟩ := hin1 (by omega)
      rw [ei]
      exact ⟨h4 f hf, by simp [World.frozen?, hcc]⟩
    · by_cases e : G.held S x f = 0
      · exact .inl e
      · refine .inr ?_
        rw [ed]
        have hx' := hx
        rw [← hR] at hx' ⊢
        exact reach_held hin hx' hf e
end
end Go.Proofs.Ytbkaopeajjechaa
