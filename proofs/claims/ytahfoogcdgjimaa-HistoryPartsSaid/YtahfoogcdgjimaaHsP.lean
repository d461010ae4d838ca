/- The walks of package history: Of's places lie in new memory; how often each place comes; is a place in a list? -/
import Derived.Test.YtahfoogcdgjimaaHsO
namespace Go.Proofs.Ytahfoogcdgjimaa
set_option linter.unusedVariables false
set_option linter.unusedSimpArgs false
open Go.RowKit Go.Shelf

attribute [local go_sem] Oper.semAt_some

theorem RdL.of_own2 {w : World} {base : Nat} {e : TypeId} {k : IntKind} {v : Value} {L : List Int} (h : w.ownsRow base e 1 v L.length (L.map (Value.int k))) :
    ∃ A cap, v = .slice A L.length cap ∧ (0 < L.length → ∃ b, A = some ⟨b, 0, none⟩ ∧ base ≤ b ∧ b < w.heap.size ∧ ∀ i, i < L.length → w.cell? ⟨b, i, none⟩ = some (.int k (L.getD i 0))) := by
  by_cases h0 : L.length = 0
  · obtain ⟨A, cap, e, _⟩ := RdL.of_own h
    exact ⟨A, cap, e, fun h => absurd h (by omega)⟩
  · obtain ⟨g, cap, rfl, hb, hlt⟩ := h.form (by omega)
    refine ⟨_, cap, rfl, fun _ => ⟨g, rfl, hb, hlt, fun i hi => ?_⟩⟩
    have hk := h.cells (g := g) rfl i (.int k (L.getD i 0)) (by
      rw [List.getElem?_map, List.getElem?_eq_getElem hi]
      simp [List.getD, hi])
    rw [show (⟨g, 0, none⟩ : Addr).add i = ⟨g, i, none⟩ from by unfold Addr.add; split <;> simp_all] at hk
    exact hk

/-- A list of new memory. -/
def NewL (w0 w : World) (A : Option Addr) (L : List Int) : Prop := 0 < L.length → ∃ b, A = some ⟨b, 0, none⟩ ∧ w0.heap.size ≤ b ∧ b < w.heap.size ∧ ∀ i, i < L.length → w.cell? ⟨b, i, none⟩ = some (.int .i64 (L.getD i 0))

theorem NewL.keep {w0 w W : World} {A : Option Addr} {L : List Int} (h : NewL w0 w A L) (hb : Below w.heap.size w W) : NewL w0 W A L := fun h0 => by
  obtain ⟨b, e, h1, h2, h3⟩ := h h0
  exact ⟨b, e, h1, Nat.lt_of_lt_of_le h2 hb.size, fun i hi => (hb.cell (p := ⟨b, i, none⟩) h2).trans (h3 i hi)⟩

theorem NewL.set {w0 w : World} {A : Option Addr} {L : List Int} (h : NewL w0 w A L) {p : Addr} (hp : p.block < w0.heap.size) (v : Value) : NewL w0 (w.setCell p v) A L := fun h0 => by
  obtain ⟨b, e, h1, h2, h3⟩ := h h0
  exact ⟨b, e, h1, by simpa using h2, fun i hi => by
    rw [World.cell?_setCell_other _ _ _ _ (fun e => by subst e; simp at hp; omega)]
    exact h3 i hi⟩

set_option maxRecDepth 100000 in
set_option maxHeartbeats 4000000 in
theorem appendSeq_new (bl bf : Nat) (L : List Nat) (m : Nat) (hL : L.length ≤ m) (hm : m ≤ 1000) (Sp : List Nat → Prop) (w : World)
    (HS : ∀ W, Below w.heap.size w W → SeqStopsK Fence.wide 7 Try.prog 39 #[.pointer (some ⟨bl, 0, none⟩), .pointer (some ⟨bf, 0, none⟩)] (fun i : Nat => #[Value.int .i64 (i : Int)]) (Below w.heap.size) (fun ys => ys = L) Sp m W) :
    Calls Try.prog 38 #[.slice none 0 0, .func (.func 39) #[] #[.pointer (some ⟨bl, 0, none⟩), .pointer (some ⟨bf, 0, none⟩)]] w fun e w' => (∃ A c, e = .returned (.slice A L.length c) ∧ NewL w w' A (L.map (fun i : Nat => (i : Int)))) ∧ Below w.heap.size w w' := by
  have cs := hide HS
  clear HS
  obtain ⟨i0, hi, hz0, hz1, hz2⟩ := info_parts info_int10
  refine (callsIn_wide (n := 8)).1 ?_
  refine callsIn_of_wp_marks Try.func38 rfl trivial ?_ rfl
  simp only [Try.ntmps38, List.size_toArray, List.length_cons, List.length_nil, Nat.reduceAdd, Nat.reduceSub, Array.replicate_succ, Array.replicate_zero, List.push_toArray, List.append_toArray, List.nil_append, List.cons_append]
  gi_wp2
  obtain ⟨w2, hw2⟩ : ∃ W, W = w.alloc (.cells #[.slice none 0 0] 40) := ⟨_, rfl⟩
  have bO : Boxed w2 w.heap.size 40 (.slice none 0 0) := by rw [hw2]; exact Boxed.new w 40 (.slice none 0 0)
  have B2 : Below w.heap.size w w2 := by rw [hw2]; repeat (first | exact Below.refl _ _ | assumption | refine Below.alloc ?_ (by first | (simp; done) | (simp; omega) | omega) _ | refine Below.setCell ?_ (by first | (simp; done) | (simp; omega) | omega) _ | apply Below.drew | refine Below.trans ?_ (Below.mono (by assumption) (by first | (simp; done) | (simp; omega) | omega)))
  have hs2 : w2.heap.size = w.heap.size + 1 := by rw [hw2]; simp
  rw [← hw2]
  clear hw2
  refine wpIn_rangeFunc_ownG rfl (by omega) (gf := 39) (lb := #[.pointer (some ⟨bl, 0, none⟩), .pointer (some ⟨bf, 0, none⟩)]) rfl trivial (enters_of Try.func39 (by kernel_rfl) rfl)
    (unhide cs w2 B2) belowK_t (belowK_b (by omega)) (Below.refl _ _) (fun _ => rfl)
    (fun (pre : List Nat) W => (∃ v, Boxed W w.heap.size 40 v ∧ W.ownsRow w2.heap.size 3 1 v pre.length (pre.map (fun i : Nat => Value.int .i64 (i : Int))) ∧ True) ∧ (Below w.heap.size w W ∧ w2.heap.size ≤ W.heap.size))
    (fun _ _ _ => False)
    (OwnFrom.and (Own.from (holdsRow_own w2.heap.size w.heap.size 40 3 1 (fun (pre : List Nat) => pre.length) (fun (pre : List Nat) => pre.map (fun i : Nat => Value.int .i64 (i : Int))) (fun _ _ => True)) _) (OwnFrom.and (ownFrom_below (Nat.le_refl _) (by omega)) (fun _ _ _ _ hs hg _ => Nat.le_trans hs hg.size)))
    (fun _ _ _ _ _ hs _ _ => hs)
    ⟨⟨_, bO, World.ownsRow_nil _ _ _ _, trivial⟩, B2, Nat.le_refl _⟩ ?a1 ?assign ?body ?done (fun D c pre W _ _ h _ => h.elim)
  case assign =>
    intro l x W K hK
    gi_wp2
    exact hK
  case body =>
    rintro l pre x W ⟨⟨v, hv, hrow, _⟩, hB, hn₀⟩ hlt
    have hc := hv.cell
    have hf := hv.frozen
    have HR := hide hrow
    have HVB := hide hv
    have hvl := hv.lt
    have hplen : pre.length ≤ 1000 := by omega
    clear hrow hv
    gi_wp2_with (gi_at_builtin; refine wpListIn_append_own _ rfl _ _ 40 rfl w2.heap.size 3 i0 (.int .i64 0) 1 8 Try.underlying40 hi hz0 hz1 hz2 rfl (by decide) _ _ _ rfl ((unhide HR).alloc _) ⟨W.heap.size, 0, none⟩ 1 1 [.int .i64 (x : Int)] rfl rfl ?c1 ?c2 ?c3 ?c4 ?c5 ?_)
    case c1 => exact one_new _ _ _
    case c2 => simp [Value.oneCell']
    case c3 => simp only [maxLen]; omega
    case c4 => omega
    case c5 => simp; omega
    intro v' w3 hown' hgrow _
    obtain ⟨g', cap', rfl⟩ := ownsRow_succ hown'
    obtain ⟨hv1, hv2, hq1, hk2, hq2⟩ := Boxed.appended (e := 3) (unhide HVB) (by decide) (row_le (unhide HR) (Nat.zero_le _)) (Nat.zero_le _) (Nat.zero_le _) (row_le hown' (Nat.zero_le _)) hgrow
    clear hq1 hq2
    have hc1 := hv1.cell
    have hf1 := hv1.frozen
    have HV2 := hide hv2
    have HK2 := hide hk2
    have HV1 := hide hv1
    have HOW := hide hown'
    have HGR := hide hgrow
    clear hv1 hv2 hk2 hown' hgrow
    gi_wp2
    have hbel : Below w2.heap.size W w3 := ((Below.refl _ W).alloc hn₀ _).grown (unhide HGR) (by simp; omega) (fun r hr => ((unhide HR).lt r hr).1)
    have hbel1 : Below w.heap.size W w3 := hbel.mono (by omega)
    refine ⟨(unhide HK2).from _, hbel1.setCell (p := ⟨w.heap.size, 0, none⟩) (Nat.le_refl _) _, ⟨_, unhide HV2, ?_, trivial⟩, (hB.trans hbel1).setCell (p := ⟨w.heap.size, 0, none⟩) (Nat.le_refl _) _, by have := hbel.size; simpa using Nat.le_trans hn₀ this⟩
    have q := (unhide HOW).kept (grownBy_setCell' w3 w.heap.size (.slice (some ⟨g', 0, none⟩) (pre.length + 1) cap')) (.inr ((unhide HV1).not_row (by decide) (unhide HOW)).symm)
    rw [hs2]
    simpa using q
  case done =>
    rintro D ys W hD rfl ⟨⟨v, hv, hrow, _⟩, hB, hn₀⟩ hK
    have hrow2 := ownsRow_putObj hrow (.deferred none) hK rfl
    obtain ⟨A', c', rfl, hr⟩ := RdL.of_own2 (L := ys.map (fun i : Nat => (i : Int))) (by simpa [List.map_map, Function.comp_def] using hrow2)
    rw [List.length_map] at *
    have hc := hv.cell
    have HR := hide hr
    have hsW := hB.size
    clear hrow hrow2 hr hv
    gi_wp2
    refine ⟨by simp, .inl ⟨_, _, rfl, run_takeDeferred hK, ?_⟩⟩
    exact ⟨_, results_tmp rfl _ _ _, ⟨A', c', rfl, fun h0 => by
      obtain ⟨b, e, h1, h2⟩ := unhide HR (by simpa using h0)
      exact ⟨b, e, by omega, by simpa using h2⟩⟩, hB.trans (belowK_b (w := w) (Nat.le_refl _) W D _ _ (by omega) hK rfl rfl)⟩

set_option maxHeartbeats 2000000 in
theorem collect_new (bl bf : Nat) (L : List Nat) (m : Nat) (hL : L.length ≤ m) (hm : m ≤ 1000) (Sp : List Nat → Prop) (w : World)
    (HS : ∀ W, Below w.heap.size w W → SeqStopsK Fence.wide 7 Try.prog 39 #[.pointer (some ⟨bl, 0, none⟩), .pointer (some ⟨bf, 0, none⟩)] (fun i : Nat => #[Value.int .i64 (i : Int)]) (Below w.heap.size) (fun ys => ys = L) Sp m W) :
    Calls Try.prog 29 #[.func (.func 39) #[] #[.pointer (some ⟨bl, 0, none⟩), .pointer (some ⟨bf, 0, none⟩)]] w fun e w' => (∃ A c, e = .returned (.slice A L.length c) ∧ NewL w w' A (L.map (fun i : Nat => (i : Int)))) ∧ Below w.heap.size w w' := by
  have ca := hide (appendSeq_new bl bf L m hL hm Sp w HS)
  clear HS
  go_enter Try.func29, Try.ntmps29
  go_wp2_with fail
  refine (unhide ca).mono ?_
  rintro e w2 ⟨⟨A, c, rfl, hr⟩, hB⟩
  have HR := hide hr
  clear hr ca
  go_wp2
  go_ret
  exact ⟨⟨A, c, rfl, unhide HR⟩, hB⟩

set_option maxHeartbeats 2000000 in
theorem of_new (A : Option Addr) (len cap : Nat) (c : Nat → Nat → Int) (b d : Nat → Bool) (x : Int) (p : Nat → Bool) (hp : p = (pTh c x)) (hlen : len ≤ 1000) (w : World) (H : CallOk w A len c b d) :
    Calls Try.prog 15 #[.slice A len cap, .int .i64 x] w fun e w' => ∃ A' c', e = .returned (.slice A' (plc p len).length c') ∧ NewL w w' A' (plc p len) ∧ Below w.heap.size w w' := by
  have HH := hide (fun W (hW : Below w.heap.size w W) => H.keep hW)
  have HP := hide hp
  clear H hp
  go_enter Try.func15, Try.ntmps15
  go_wp2_with fail
  refine (picked_any A len cap _ _ _).mono ?_
  rintro e w2 ⟨rfl, hb2, hs2, cl, cf⟩
  simp only [World.size_alloc] at hb2 hs2 cl cf
  have cx : w2.cell? ⟨w.heap.size, 0, none⟩ = some (.int .i64 x) := (hb2.cell (p := ⟨w.heap.size, 0, none⟩) (by simp)).trans (by go_simp)
  have B2 : Below w.heap.size w w2 := ((Below.refl _ w).alloc (Nat.le_refl _) _).trans (hb2.mono (by simp))
  clear hb2
  have hL := plN_len p len
  have cc := hide (collect_new (w.heap.size + 1) (w.heap.size + 1 + 1) (plN p len) len hL hlen _ w2 (fun W hW => of_stops 7 (by omega) A len cap c b d p w.heap.size (w.heap.size + 1) (w.heap.size + 1 + 1) w2.heap.size hlen W
    (fun U hU => unhide HH U (B2.trans ((hW.trans hU).mono (by omega))))
    (fun U k hk hU => by
      rw [show p k = (c k 0 == x) by rw [unhide HP]; rfl]
      exact of1_any (c k) (b k) (d k) w.heap.size x U (by have := (hW.trans hU).size; omega) (((hW.trans hU).cell (p := ⟨w.heap.size, 0, none⟩) (by show w.heap.size < _; omega)).trans cx))
    (by omega) (by omega) hW.size ((hW.cell (p := ⟨w.heap.size + 1, 0, none⟩) (by show w.heap.size + 1 < _; omega)).trans cl) ((hW.cell (p := ⟨w.heap.size + 1 + 1, 0, none⟩) (by show w.heap.size + 1 + 1 < _; omega)).trans cf)))
  clear cl cf cx
  go_wp2_with fail
  refine (unhide cc).mono ?_
  rintro e w3 ⟨⟨A', c', rfl, hr⟩, hB⟩
  rw [plN_plc] at hr
  have hlen3 : (plN p len).length = (plc p len).length := by rw [← plN_plc, List.length_map]
  rw [hlen3]
  have HR := hide hr
  clear hr cc hlen3
  go_wp2
  go_ret
  refine ⟨A', c', rfl, fun h0 => ?_, B2.trans (hB.mono (by omega))⟩
  obtain ⟨b, e, h1, h2⟩ := unhide HR h0
  exact ⟨b, e, by omega, h2⟩


theorem plc_mem {p : Nat → Bool} : ∀ {n j : Nat}, j < (plc p n).length → ∃ q, q < n ∧ (plc p n).getD j 0 = (q : Int) ∧ p q = true
  | 0, j, h => by simp [plc] at h
  | n + 1, j, h => by
    unfold plc at h ⊢
    cases hp : p n with
    | false =>
      rw [hp] at h
      simp only [Bool.false_eq_true, if_false] at h ⊢
      obtain ⟨q, h1, h2, h3⟩ := plc_mem h
      exact ⟨q, by omega, h2, h3⟩
    | true =>
      rw [hp] at h
      simp only [if_true] at h ⊢
      by_cases hj : j < (plc p n).length
      · obtain ⟨q, h1, h2, h3⟩ := plc_mem hj
        refine ⟨q, by omega, ?_, h3⟩
        rw [← h2]
        simp [List.getD, List.getElem?_append_left hj]
      · have e : j = (plc p n).length := by simp at h; omega
        subst e
        exact ⟨n, by omega, by simp [List.getD], hp⟩

theorem plc_count (p : Nat → Bool) (i : Nat) : ∀ n, (plc p n).count (i : Int) = if i < n ∧ p i = true then 1 else 0
  | 0 => by simp [plc]
  | n + 1 => by
    unfold plc
    have ih := plc_count p i n
    cases hp : p n with
    | false =>
      simp only [Bool.false_eq_true, if_false]
      rw [ih]
      by_cases e : i = n
      · subst e
        simp [hp]
      · have : i < n ↔ i < n + 1 := by omega
        simp [this]
    | true =>
      simp only [if_true]
      rw [List.count_append, ih]
      by_cases e : i = n
      · subst e
        simp [hp]
      · have h1 : i < n ↔ i < n + 1 := by omega
        have h2 : [(n : Int)].count (i : Int) = 0 := by
          rw [List.count_eq_zero]
          simp
          omega
        rw [h2]
        simp [h1]

theorem count_take (L : List Int) (j : Nat) (hj : j < L.length) (x : Int) : ((L.take (j + 1)).count x : Int) = (L.take j).count x + if L.getD j 0 = x then 1 else 0 := by
  rw [List.take_succ_eq_append_getElem hj, List.count_append]
  have e : L.getD j 0 = L[j] := by simp [List.getD, hj]
  rw [e]
  by_cases h : L[j] = x
  · simp [h]
  · simp [h]

theorem count_le (L : List Int) (j : Nat) (x : Int) : ((L.take j).count x : Int) ≤ j := by
  have h1 := List.count_le_length (a := x) (l := L.take j)
  have h2 := List.length_take_le j L
  omega

theorem mem_plc {p : Nat → Bool} {n i : Nat} : (i : Int) ∈ plc p n ↔ i < n ∧ p i = true := by
  rw [← List.count_pos_iff, plc_count]
  split
  · rename_i h; exact ⟨fun _ => h, fun _ => by omega⟩
  · rename_i h; exact ⟨fun hh => by omega, fun hh => absurd hh h⟩

set_option maxHeartbeats 2000000 in
theorem among_any (A : Option Addr) (cap : Nat) (L : List Int) (x : Int) (hn : L.length ≤ 1000) (w : World) (H : RdL w .i64 A L) :
    Calls Try.prog 22 #[.slice A L.length cap, .int .i64 x] w fun e w' => e = .returned (.bool (decide (x ∈ L))) ∧ Below w.heap.size w w' := by
  have HH := hide (fun W (hW : Below w.heap.size w W) => H.keep hW)
  clear H
  have hy : Hid (∀ j, j < L.length → L.getD j 0 = x → decide (x ∈ L) = true) := hide (fun j hj e => by
    simp only [decide_eq_true_eq]
    rw [← e, List.getD_eq_getElem?_getD, List.getElem?_eq_getElem hj]
    exact List.getElem_mem hj)
  have hno : Hid ((∀ j, j < L.length → L.getD j 0 ≠ x) → decide (x ∈ L) = false) := hide (fun h => by
    simp only [decide_eq_false_iff_not]
    intro hx
    obtain ⟨j, hj, e⟩ := List.mem_iff_getElem.1 hx
    exact h j hj (by rw [List.getD_eq_getElem?_getD, List.getElem?_eq_getElem hj]; exact e))
  generalize decide (x ∈ L) = R at *
  go_enter Try.func22, Try.ntmps22
  go_wp2
  go_loopw [5] (fun i wr => ∃ k : Nat, k ≤ L.length ∧ i = .int .i64 k ∧ Hid (∀ j, j < k → L.getD j 0 ≠ x) ∧ Below w.heap.size w wr) (fun i _ => L.length - (intOf i).toNat)
  case atStart => exact ⟨0, Nat.zero_le _, rfl, hide (fun j hj => by omega), Below.refl _ _⟩
  case round =>
    obtain ⟨k, hk, rfl, HN, hB⟩ := hrel
    by_cases hlt : k < L.length
    · obtain ⟨g, o, rfl, hg, hc⟩ := unhide HH _ hB (by omega)
      have hcell := hc k hlt
      have b4 : (0 : Int) ≤ (k : Int) := by omega
      have b5 : (k : Int) < (L.length : Int) := by omega
      clear hc
      obtain ⟨v, hv⟩ : ∃ v, v = L.getD k 0 := ⟨_, rfl⟩
      rw [← hv] at hcell
      have HV := hide hv
      clear hv
      by_cases he : v = x
      · have hres := unhide hy k hlt ((unhide HV).symm.trans he)
        subst hres
        have hb : (v == x) = true := by simpa using he
        clear he
        go_wp2
        go_ret
        exact ⟨rfl, hB⟩
      · have hb : (v == x) = false := by simpa using he
        have HN2 : Hid (∀ j, j < k + 1 → L.getD j 0 ≠ x) := hide (fun j hj => by
          by_cases e : j = k
          · subst e; exact fun e2 => he ((unhide HV).trans e2)
          · exact unhide HN j (by omega))
        clear he
        go_wp2
        go_roundw
        case measure => simp [intOf]; omega
        case rel => exact ⟨k + 1, by omega, by go_num, HN2, hB⟩
    · obtain rfl : k = L.length := by omega
      have hres := unhide hno (unhide HN)
      subst hres
      go_wp2
      go_ret
      exact ⟨rfl, hB⟩
end Go.Proofs.Ytahfoogcdgjimaa
