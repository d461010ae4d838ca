/- The walks of package graph: objects met, one after the other. -/
import Derived.Test.YtbkaopeajjechaaGrU
import Derived.OwnWalk
import Derived.Laws.OwnMore
namespace Go.Proofs.Ytbkaopeajjechaa
set_option linter.unusedVariables false
set_option linter.unusedSimpArgs false
open Go.RowKit Go.Maps

/-- What has been met, and then these. -/
def meetL (M : List Nat) (xs : List Nat) : List Nat := xs.foldl (fun M x => if x = 0 ∨ x ∈ M then M else M ++ [x]) M

theorem meetL_snoc (M xs : List Nat) (x : Nat) : meetL M (xs ++ [x]) = if x = 0 ∨ x ∈ meetL M xs then meetL M xs else meetL M xs ++ [x] := by
  unfold meetL
  rw [List.foldl_append]
  rfl

theorem nodup_len : ∀ (n : Nat) (M : List Nat), M.Nodup → (∀ x ∈ M, x < n) → M.length ≤ n
  | 0, M, _, h => by
    cases M with
    | nil => simp
    | cons x r => have := h x List.mem_cons_self; omega
  | n + 1, M, hn, h => by
    by_cases hm : n ∈ M
    · have h1 := nodup_len n (M.erase n) (hn.erase n) (fun x hx => by
        have h2 := h x (List.mem_of_mem_erase hx)
        have h3 : x ≠ n := (fun e => by rw [e] at hx; exact (List.Nodup.not_mem_erase hn) hx)
        omega)
      rw [List.length_erase_of_mem hm] at h1
      omega
    · have := nodup_len n M hn (fun x hx => by
        have h2 := h x hx
        have h3 : x ≠ n := fun e => hm (e ▸ hx)
        omega)
      omega

theorem meetL_ok {D : Nat → Prop} : ∀ (xs M : List Nat), M.Nodup → (∀ x ∈ M, x ≠ 0 ∧ D x) → (∀ x ∈ xs, x = 0 ∨ D x) → (meetL M xs).Nodup ∧ (∀ x ∈ meetL M xs, x ≠ 0 ∧ D x)
  | [], M, h1, h2, _ => ⟨h1, h2⟩
  | x :: xs, M, h1, h2, h3 => by
    show (meetL (if x = 0 ∨ x ∈ M then M else M ++ [x]) xs).Nodup ∧ _
    have hr : ∀ y ∈ xs, y = 0 ∨ D y := fun y hy => h3 y (List.mem_cons_of_mem _ hy)
    by_cases e : x = 0 ∨ x ∈ M
    · have := meetL_ok xs M h1 h2 hr
      unfold meetL at this ⊢
      simp only [List.foldl_cons, if_pos e]
      exact this
    · have hx : x ≠ 0 ∧ D x := ⟨fun h => e (.inl h), (h3 x List.mem_cons_self).resolve_left (fun h => e (.inl h))⟩
      have := meetL_ok (D := D) xs (M ++ [x]) (by
        rw [List.nodup_append]
        exact ⟨h1, by simp, fun a ha b hb => by
          obtain rfl : b = x := by simpa using hb
          exact fun h => e (.inr (h ▸ ha))⟩) (fun y hy => by
        rcases List.mem_append.1 hy with hy | hy
        · exact h2 y hy
        · obtain rfl : y = x := by simpa using hy
          exact hx) hr
      unfold meetL at this ⊢
      simp only [List.foldl_cons, if_neg e]
      exact this

section
variable {T : Nat} {sp : Int} {len : Nat} {S : Nat → ByteArray} {w : World} {L : Lay} {G : Gr} {md : Int}

/-- What is met, as it lies in memory: the map in a variable, the list in another. -/
structure MetS (L : Lay) (W : World) (base sb mb pm : Nat) (v : Value) (M : List Nat) : Prop where
  cs : W.cell? ⟨sb, 0, none⟩ = some (.map (some pm))
  cm : W.cell? ⟨mb, 0, none⟩ = some v
  fm : W.frozen? ⟨mb, 0, none⟩ = false
  map : PMap W pm (M.map fun x => (L.adr x, .int .i64 1))
  row : W.ownsRow base 71 1 v M.length (M.map L.ptr)
  lt : sb < base ∧ mb < base ∧ pm < base ∧ base ≤ W.heap.size
  ne : sb ≠ mb ∧ sb ≠ pm ∧ mb ≠ pm

theorem lookI_mem {D : Nat → Prop} (hinj : ∀ x y, D x → D y → L.adr x = L.adr y → x = y) {x : Nat} (hx : D x) : ∀ (M : List Nat) (i : Nat), (∀ y ∈ M, D y) →
    (x ∈ M → ∃ j, lookI (L.adr x) (M.map fun x => (L.adr x, Value.int .i64 1)) i = some (j, .int .i64 1)) ∧ (x ∉ M → lookI (L.adr x) (M.map fun x => (L.adr x, Value.int .i64 1)) i = none)
  | [], i, _ => ⟨(fun h => by cases h), fun _ => rfl⟩
  | y :: M, i, h => by
    have ih := lookI_mem hinj hx M (i + 1) (fun z hz => h z (List.mem_cons_of_mem _ hz))
    simp only [List.map_cons, lookI]
    by_cases e : L.adr x = L.adr y
    · have exy := hinj x y hx (h y List.mem_cons_self) e
      rw [if_pos e]
      exact ⟨fun _ => ⟨i, rfl⟩, fun hn => absurd (show x ∈ y :: M from exy ▸ List.mem_cons_self) hn⟩
    · rw [if_neg e]
      refine ⟨fun hm => ?_, fun hn => ih.2 (fun h => hn (List.mem_cons_of_mem _ h))⟩
      rcases List.mem_cons.1 hm with rfl | hm
      · exact absurd rfl e
      · exact ih.1 hm

theorem map_und : Try.prog.underlying 98 = some (.map 71 3) := by kernel_rfl
theorem int_z (W : World) : (zeroValue 3).run Try.prog W = .ok (.int .i64 0) W := by kernel_rfl

theorem IsG.inj (H : IsG T sp len S w L G md) : ∀ x y, L.dom x → L.dom y → L.adr x = L.adr y → x = y := fun x y hx hy e => by
  have t1 := (H.obj x hx).tag
  have t2 := (H.obj y hy).tag
  rw [e, t2] at t1
  injection t1 with t1
  exact t1.symm

theorem grow_chg {W V : World} {row : Option Nat} (h : W.grownBy V row) : Chg (fun c => row = some c) W V :=
  ⟨h.os, h.tape, h.output, h.size, fun i hi hn => h.block i hi (fun e => hn (by first | exact e | exact e.symm))⟩
theorem set_grown (W : World) (b i : Nat) (v : Value) : W.grownBy (W.setCell ⟨b, i, none⟩ v) (some b) :=
  ⟨rfl, rfl, rfl, by rw [World.size_setCell]; exact Nat.le_refl _, fun j hj hn => Below.heap_setCell W ⟨b, i, none⟩ v j (fun e => hn (by first | (rw [e]; done) | (rw [show j = b from e])))⟩
theorem PMap.chg {Z : Nat → Prop} {W V : World} {b : Nat} {K : List (Nat × Value)} (h : PMap W b K) (hc : Chg Z W V) (hb : ¬ Z b) (hx : ∀ x ∈ K, ¬ Z x.1) : PMap V b K := by
  have hl : b < W.heap.size := by
    rcases Nat.lt_or_ge b W.heap.size with h' | h'
    · exact h'
    · have := h.1; rw [Array.getElem?_eq_none h'] at this; cases this
  exact ⟨(hc.block b hl hb).trans h.1, fun x hx' => (h.2 x hx').chg hc (hx x hx')⟩
theorem PMap.set {W : World} {b : Nat} {K : List (Nat × Value)} (h : PMap W b K) {c i : Nat} (v : Value) (hb : b ≠ c) : PMap (W.setCell ⟨c, i, none⟩ v) b K :=
  ⟨(Below.heap_setCell W ⟨c, i, none⟩ v b hb).trans h.1, fun x hx => (h.2 x hx).set _ _ _⟩

theorem one_newP (w : World) (u : Value) (t : TypeId) : ∀ j v, [u][j]? = some v → (w.alloc (.cells #[u] t)).cell? ((⟨w.heap.size, 0, none⟩ : Addr).add j) = some v := by
  intro j v h
  match j, h with
  | 0, h => simp at h; subst h; simp [Addr.add]

set_option maxRecDepth 100000 in
theorem inf_p : ∃ i : TypeInfo, Try.prog.info? 71 = some i ∧ i.zero = some (.pointer none) ∧ i.size = 1 ∧ i.bytes = 8 := ⟨_, rfl, rfl, rfl, rfl⟩

set_option maxRecDepth 100000 in
set_option maxHeartbeats 4000000 in
theorem meet_any (n0 base sb mb pm : Nat) (hn0 : n0 ≤ sb ∧ n0 ≤ mb ∧ n0 ≤ pm ∧ n0 ≤ base) (A : Option Addr) (m cap : Nat) (g : Nat → Nat) (w0 w : World) (H : IsG T sp len S w0 L G md) (hnn : G.n ≤ 1000000) (h0 : w0.heap.size ≤ n0) (hw0 : Below n0 w0 w)
    (v : Value) (M : List Nat) (hM : M.Nodup ∧ ∀ x ∈ M, x ≠ 0 ∧ L.dom x) (hv : MetS L w base sb mb pm v M) (hA : 0 < m → ∃ b o, A = some ⟨b, o, none⟩ ∧ b < n0 ∧ ∀ i, i < m → w.cell? ⟨b, o + i, none⟩ = some (L.ptr (g i))) (hg : ∀ i, i < m → g i = 0 ∨ L.dom (g i)) (hm : m ≤ 8) :
    Calls Try.prog 67 #[.slice A m cap, .pointer (some ⟨sb, 0, none⟩), .pointer (some ⟨mb, 0, none⟩)] w fun e w' => e = .returned (.tuple #[]) ∧ (∃ v', MetS L w' base sb mb pm v' (meetL M ((List.range m).map g))) ∧ Below n0 w w' := by
  have hX := hide hv
  have HA := hide hA
  have HG := hide hg
  have HM := hide hM
  have HH := hide H
  clear hv hA hg hM H
  go_enter Try.func67, Try.ntmps67
  go_wp2
  go_loopw [8] (fun i wr => ∃ j : Nat, j ≤ m ∧ i = .int .i64 j ∧ (∃ v', Hid (MetS L wr base sb mb pm v' (meetL M ((List.range j).map g)))) ∧ Below n0 w wr) (fun i _ => m - (intOf i).toNat)
  case atStart => exact ⟨0, Nat.zero_le _, rfl, ⟨v, hX⟩, by repeat (first | exact Below.refl _ _ | assumption | refine Below.alloc ?_ (by first | (simp; done) | (simp; omega) | omega) _ | refine Below.setCell ?_ (by first | (simp; done) | (simp; omega) | omega) _ | apply Below.drew | refine Below.trans ?_ (Below.mono (by assumption) (by first | (simp; done) | (simp; omega) | omega)))⟩
  case round =>
    obtain ⟨j, hj, rfl, ⟨v', hS⟩, hB⟩ := hrel
    by_cases hlt : j < m
    · obtain ⟨b, o, rfl, hbn, hcs⟩ := unhide HA (by omega)
      have hcell := (hB.cell (p := ⟨b, o + j, none⟩) hbn).trans (hcs j hlt)
      have hgj := unhide HG j hlt
      have b0 : (0 : Int) ≤ (j : Int) := by omega
      have b1 : (j : Int) < (m : Int) := by omega
      have hmeet : Hid (meetL M ((List.range (j + 1)).map g) = if g j = 0 ∨ g j ∈ meetL M ((List.range j).map g) then meetL M ((List.range j).map g) else meetL M ((List.range j).map g) ++ [g j]) := hide (by rw [List.range_succ, List.map_append]; exact meetL_snoc _ _ _)
      have hMo := hide (meetL_ok (D := L.dom) ((List.range j).map g) M (unhide HM).1 (unhide HM).2 (fun y hy => by
        obtain ⟨i, hi, rfl⟩ := List.mem_map.1 hy
        exact unhide HG i (by have := List.mem_range.1 hi; omega)))
      clear hcs
      generalize hMj : meetL M ((List.range j).map g) = N at *
      generalize g j = x at *
      obtain ⟨s1, s2, s3, s4, s5, s6, s7⟩ := unhide hS
      by_cases hx0 : x = 0
      · rw [hx0, show L.ptr 0 = .pointer none from rfl] at hcell
        have hN : meetL M ((List.range (j + 1)).map g) = N := by rw [unhide hmeet, if_pos (.inl hx0)]
        have HN := hide hN
        clear hN s1 s2 s3 s4 s5 s6 s7
        go_wp2
        go_roundw
        case measure => simp [intOf]; omega
        case rel => exact ⟨j + 1, by omega, by go_num, ⟨v', by rw [unhide HN]; exact hS⟩, hB⟩
      · have hd := hgj.resolve_left hx0
        have hO := (unhide HH).obj x hd
        have hxn : L.adr x < n0 := Nat.lt_of_lt_of_le hO.lt h0
        have hcl : IsCells wr (L.adr x) := by
          obtain ⟨c, t, hq⟩ := hO.cells
          exact ⟨c, t, ((hw0.trans hB).block _ hxn).trans hq⟩
        have hpx : L.ptr x = .pointer (some ⟨L.adr x, 0, none⟩) := by unfold Lay.ptr; rw [if_neg hx0]
        rw [hpx] at hcell
        obtain ⟨j0, hj0, hsz⟩ := inf_o
        have hlk := run_lookup_pt (P := Try.prog) map_und und_p hj0 hsz s4 hcl (int_z wr)
        have hmm := lookI_mem (unhide HH).inj hd N 0 (fun y hy => ((unhide hMo).2 y hy).2)
        by_cases hin : x ∈ N
        · obtain ⟨q, hq⟩ := hmm.1 hin
          have hl2 : lookV (L.adr x) (N.map fun x => (L.adr x, Value.int .i64 1)) (.int .i64 0) = .int .i64 1 := by unfold lookV; rw [hq]
          rw [hl2] at hlk
          have hN : meetL M ((List.range (j + 1)).map g) = N := by rw [unhide hmeet, if_pos (.inr hin)]
          have HN := hide hN
          clear hN s3 s4 s5 s6 s7 hmm hq hl2 hO
          go_wp2
          go_roundw
          case measure => simp [intOf]; omega
          case rel => exact ⟨j + 1, by omega, by go_num, ⟨v', by rw [unhide HN]; exact hS⟩, hB⟩
        · have hq := hmm.2 hin
          have hl2 : lookV (L.adr x) (N.map fun x => (L.adr x, Value.int .i64 1)) (.int .i64 0) = .int .i64 0 := by unfold lookV; rw [hq]
          rw [hl2] at hlk
          obtain ⟨W2, hup, hP2, hg2⟩ := run_update_pt (P := Try.prog) (v := .int .i64 1) map_und und_p hj0 hsz s4 hcl hq
          have hNl := nodup_len (G.n + 1) N (unhide hMo).1 (fun y hy => by have := ((unhide HH).obj y ((unhide hMo).2 y hy).2).num.2; omega)
          have hch : Chg (fun c => c = pm) wr W2 := Chg.gr hg2 rfl
          obtain ⟨l1, l2, l3, l4⟩ := s6
          obtain ⟨ne1, ne2, ne3⟩ := s7
          have s1 := (hch.cell (b := sb) (o := 0) (by omega) ne2).trans s1
          have s2 := (hch.cell (b := mb) (o := 0) (by omega) ne3).trans s2
          have s3 := (hch.frozen (b := mb) (o := 0) (by omega) ne3).trans s3
          have hz2 := hch.size
          have hown : ∀ k, v'.ownBlock = some k → base ≤ k := fun k hk => (s5.lt k hk).1
          have HR := hide (s5.kept hg2 (by
            cases e : v'.ownBlock with
            | none => exact .inl rfl
            | some k => exact .inr (fun h => by injection h with h; have := hown k e; omega)))
          have HP := hide hP2
          have hB2 : Below n0 w W2 := hB.trans (hch.below (fun i e => by omega) (by omega))
          obtain ⟨i0, hi, hz0, hz1, hz3⟩ := inf_p
          have HN : Hid (meetL M ((List.range (j + 1)).map g) = N ++ [x]) := hide (by rw [unhide hmeet, if_neg (fun h => h.elim hx0 hin)])
          have l5 : mb < W2.heap.size := by omega
          have l6 : sb < W2.heap.size := by omega
          clear s4 s5 hmm hq hl2 hO hg2 hch hP2
          go_wp2_with (at_builtin; refine wpList_append_own _ rfl (.tmp 22) (.tmp 24) _ rfl base 71 i0 (.pointer none) 1 8 Try.underlying88 hi hz0 hz1 hz3 rfl (by decide) _ _ _ rfl ((unhide HR).alloc _) ⟨W2.heap.size, 0, none⟩ 1 1 [.pointer (some ⟨L.adr x, 0, none⟩)] rfl rfl ?c1 ?c2 ?c3 ?c4 ?c5 ?_)
          case c1 => exact one_newP _ _ _
          case c2 => simp [Value.oneCell']
          case c3 => simp only [maxLen]; omega
          case c4 => omega
          case c5 => simp; omega
          intro v3 w3 hown3 hgr3 _
          have hc3 := grow_chg hgr3
          have hz3' := hc3.size
          simp only [World.size_alloc] at hz3'
          have nz : ∀ c, c < base → ¬ v'.ownBlock = some c := fun c hc h => by have := hown c h; omega
          have s1 := (hc3.cell (b := sb) (o := 0) (by simp; omega) (nz sb l1)).trans (show (W2.alloc (.cells #[.pointer (some ⟨L.adr x, 0, none⟩)] 71)).cell? ⟨sb, 0, none⟩ = some (.map (some pm)) by go_simp)
          have s2 := (hc3.cell (b := mb) (o := 0) (by simp; omega) (nz mb l2)).trans (show (W2.alloc (.cells #[.pointer (some ⟨L.adr x, 0, none⟩)] 71)).cell? ⟨mb, 0, none⟩ = some v' by go_simp)
          have s3 := (hc3.frozen (b := mb) (o := 0) (by simp; omega) (nz mb l2)).trans (show (W2.alloc (.cells #[.pointer (some ⟨L.adr x, 0, none⟩)] 71)).frozen? ⟨mb, 0, none⟩ = false by go_simp)
          have hel : ∀ y ∈ (N.map fun x => (L.adr x, Value.int .i64 1)) ++ [(L.adr x, Value.int .i64 1)], y.1 < n0 := fun y hy => by
            rcases List.mem_append.1 hy with hy | hy
            · obtain ⟨q, hq, rfl⟩ := List.mem_map.1 hy
              exact Nat.lt_of_lt_of_le ((unhide HH).obj q ((unhide hMo).2 q hq).2).lt h0
            · obtain rfl : y = (L.adr x, Value.int .i64 1) := by simpa using hy
              exact hxn
          have HP3 := hide ((((unhide HP).chg (Z := fun _ => False) ((Chg.refl _ _).alloc _) (fun h => h) (fun _ _ h => h)).chg hc3 (nz pm l3) (fun y hy => nz y.1 (by have := hel y hy; omega))).set (c := mb) (i := 0) v3 (fun e => ne3 e.symm))
          have HR3 := hide (hown3.kept (set_grown w3 mb 0 v3) (by
            cases e : v3.ownBlock with
            | none => exact .inl rfl
            | some k => exact .inr (fun h => by injection h with h; have := (hown3.lt k e).1; omega)))
          have hB3 : Below n0 w w3 := (hB2.alloc (by omega) _).trans (hc3.below (fun i e => by have := hown i e; omega) (by simp; omega))
          have hf : ∃ u, v3 = u := ⟨_, rfl⟩
          have h3f : (∃ A n c, v3 = .slice A n c) := by
            rcases hown3.2 with ⟨e, _⟩ | ⟨g9, c9, _, e, _⟩
            · exact ⟨_, _, _, e⟩
            · exact ⟨_, _, _, e⟩
          obtain ⟨A3, n3, c3, rfl⟩ := h3f
          clear hown3 hgr3 hc3 hf hup hlk
          go_wp2
          go_roundw
          case measure => simp [intOf]; omega
          case rel =>
            refine ⟨j + 1, by omega, by go_num, ⟨.slice A3 n3 c3, hide ⟨?_, ?_, ?_, ?_, ?_, ⟨l1, l2, l3, ?_⟩, ⟨ne1, ne2, ne3⟩⟩⟩, hB3.setCell (p := ⟨mb, 0, none⟩) (by show n0 ≤ mb; omega) _⟩
            · rw [set_other _ (.inl ne1)]; exact s1
            · exact set_same _ s2
            · rw [World.frozen?_setCell]; exact s3
            · rw [unhide HN, List.map_append]; exact unhide HP3
            · rw [unhide HN, List.map_append, List.length_append]
              have := unhide HR3
              rw [← hpx] at this
              exact this
            · rw [World.size_setCell]; omega
    · obtain rfl : j = m := by omega
      go_wp2
      first | go_end0 | refine bodyPost_ret (results_none rfl _ _ _) rfl ?_
      exact ⟨rfl, ⟨v', unhide hS⟩, hB⟩
end
end Go.Proofs.Ytbkaopeajjechaa
