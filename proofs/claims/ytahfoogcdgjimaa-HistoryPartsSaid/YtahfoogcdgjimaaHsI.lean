/- The walk of package history: Cut. -/
import Derived.Test.YtahfoogcdgjimaaHsH
namespace Go.Proofs.Ytahfoogcdgjimaa
set_option linter.unusedVariables false
set_option linter.unusedSimpArgs false
open Go.RowKit Go.Shelf

attribute [local go_sem] Oper.semAt_some

def isCut (c : Nat → Nat → Int) (d : Nat → Bool) (x : Int) (k : Nat) : Bool := d k && decide (x < c k 13)
def cutC (c : Nat → Nat → Int) (d : Nat → Bool) (x : Int) (k j : Nat) : Int := if isCut c d x k = true then (if j ≤ 8 ∨ j = 12 then c k j else 0) else c k j
def cutB (c : Nat → Nat → Int) (b d : Nat → Bool) (x : Int) (k : Nat) : Bool := if isCut c d x k = true then false else b k
def cutD (c : Nat → Nat → Int) (d : Nat → Bool) (x : Int) (k : Nat) : Bool := if isCut c d x k = true then false else d k
/-- A call's 15 cells. -/
def cv15 (a : Nat → Int) (b d : Bool) : List Value := [.int .i64 (a 0), .int .i64 (a 1), .int .i64 (a 2), .int .i64 (a 3), .int .i64 (a 4), .int .i64 (a 5), .int .i64 (a 6), .int .i64 (a 7), .int .i64 (a 8), .int .i64 (a 9), .bool b, .int .i64 (a 11), .int .i64 (a 12), .int .i64 (a 13), .bool d]
def cutV (c : Nat → Nat → Int) (b d : Nat → Bool) (x : Int) (k : Nat) : List Value := cv15 (cutC c d x k) (cutB c b d x k) (cutD c d x k)

def zCall : Value := .agg #[.int .i64 0, .int .i64 0, .int .i64 0, .int .i64 0, .int .i64 0, .int .i64 0, .int .i64 0, .int .i64 0, .int .i64 0, .int .i64 0, .bool false, .int .i64 0, .int .i64 0, .int .i64 0, .bool false]
theorem info_call10 : (Try.prog.info? 36).map (fun i => (i.zero, i.size, i.bytes)) = some (some zCall, 15, 120) := by kernel_rfl

theorem list_new (w : World) (xs : List Value) (t : TypeId) (j : Nat) (u : Value) (hj : xs[j]? = some u) : (w.alloc (.cells xs.toArray t)).cell? ((⟨w.heap.size, 0, none⟩ : Addr).add j) = some u := by
  rw [show (⟨w.heap.size, 0, none⟩ : Addr).add j = ⟨w.heap.size, j, none⟩ from by unfold Addr.add; split <;> simp_all]
  exact (World.cell?_alloc_new w _ _ _).trans (by simpa using hj)

theorem keptFrom {β : Type} {n₀ x B : Nat} {w₀ : World} (hn : n₀ ≤ w₀.heap.size) (hB : n₀ ≤ B) : OwnFrom B (fun (_ : β) W => KeptBut n₀ x w₀ W) :=
  fun _ _ _ _ hs hg hr => ⟨Nat.le_trans hs.1 hg.size, fun i hi hx => (hg.block i (Nat.lt_of_lt_of_le hi (Nat.le_trans hn hs.1)) (fun e => by have := (hr i e.symm).1; omega)).trans (hs.2 i hi hx)⟩

set_option maxRecDepth 100000 in
set_option maxHeartbeats 4000000 in
theorem cut_any (A : Option Addr) (len cap : Nat) (c : Nat → Nat → Int) (b d : Nat → Bool) (x : Int) (hlen : len ≤ 1000) (w : World) (H : CallOk w A len c b d) :
    Calls Try.prog 24 #[.slice A len cap, .int .i64 x] w fun e w' => (∃ v, e = .returned v ∧ w'.ownsRow w.heap.size 36 15 v (plN (pCut c x) len).length ((plN (pCut c x) len).flatMap (cutV c b d x))) ∧ Below w.heap.size w w' := by
  have HH := hide (fun W (hW : ∀ i, i < w.heap.size → W.heap[i]? = w.heap[i]?) (hs : w.heap.size ≤ W.heap.size) => H.keepAt (W := W) (n₀ := 0) hs (fun g o h e => by
    obtain ⟨g', o', e', hl, _⟩ := H h
    rw [e] at e'
    injection e' with e'
    injection e' with e1 _ _
    exact hW g (by omega)))
  have HHS := hide (fun i (hi : i < len) => (by
    obtain ⟨g, o, hA, hl, _⟩ := H (by omega)
    exact ⟨g, o, hA, hl⟩ : ∃ g o, A = some ⟨g, o, none⟩ ∧ g < w.heap.size))
  clear H
  obtain ⟨i0, hi, hz0, hz1, hz2⟩ := info_parts info_call10
  refine (callsIn_wide (n := 8)).1 ?_
  refine callsIn_of_wp_marks Try.func24 rfl trivial ?_ rfl
  simp only [Try.ntmps24, List.size_toArray, List.length_cons, List.length_nil, Nat.reduceAdd, Nat.reduceSub, Array.replicate_succ, Array.replicate_zero, List.push_toArray, List.append_toArray, List.nil_append, List.cons_append]
  gi_wp2
  refine ⟨trivial, ?_⟩
  obtain ⟨w1, hw1⟩ : ∃ W, W = ((w.alloc (.cells #[.slice A len cap] 22)).alloc (.cells #[.int .i64 x] 3)).alloc (.cells #[.slice none 0 0] 22) := ⟨_, rfl⟩
  have bO : Boxed w1 (w.heap.size + 1 + 1) 22 (.slice none 0 0) := by
    rw [hw1]
    have q := Boxed.new ((w.alloc (.cells #[.slice A len cap] 22)).alloc (.cells #[.int .i64 x] 3)) 22 (.slice none 0 0)
    simpa using q
  have B1 : Below w.heap.size w w1 := by rw [hw1]; repeat (first | exact Below.refl _ _ | assumption | refine Below.alloc ?_ (by first | (simp; done) | (simp; omega) | omega) _ | refine Below.setCell ?_ (by first | (simp; done) | (simp; omega) | omega) _ | apply Below.drew | refine Below.trans ?_ (Below.mono (by assumption) (by first | (simp; done) | (simp; omega) | omega)))
  have hs1 : w1.heap.size = w.heap.size + 3 := by rw [hw1]; simp
  have cA : w1.cell? ⟨w.heap.size, 0, none⟩ = some (.slice A len cap) := by rw [hw1]; go_simp
  have cx : w1.cell? ⟨w.heap.size + 1, 0, none⟩ = some (.int .i64 x) := by rw [hw1]; go_simp
  have HW1 := hide hw1
  clear hw1
  rw [← unhide HW1]
  refine (callsIn_wide.2 (picked_any A len cap _ _ w1)).mono ?_
  rintro e w2 ⟨rfl, hb2, hs2, cl, cf⟩
  have bO2 : Boxed w2 (w.heap.size + 1 + 1) 22 (.slice none 0 0) := (hb2.block (w.heap.size + 1 + 1) (by omega)).trans bO
  have cA2 : w2.cell? ⟨w.heap.size, 0, none⟩ = some (.slice A len cap) := (hb2.cell (p := ⟨w.heap.size, 0, none⟩) (by show w.heap.size < _; omega)).trans cA
  have cx2 : w2.cell? ⟨w.heap.size + 1, 0, none⟩ = some (.int .i64 x) := (hb2.cell (p := ⟨w.heap.size + 1, 0, none⟩) (by show w.heap.size + 1 < _; omega)).trans cx
  have B2 := B1.trans (hb2.mono (by omega))
  rw [hs1] at hs2 cl cf
  have st := cut_stops 7 (by omega) A len cap c b d (pCut c x) (w.heap.size + 1) w1.heap.size (w1.heap.size + 1) w2.heap.size (w.heap.size + 1 + 1) (by omega) (by omega) hlen w2
    (fun U hU => unhide HH U (fun i hi => (hU.2 i (by omega) (by omega)).trans (B2.block i hi)) (Nat.le_trans B2.size hU.1))
    (fun U k hk hU => cut1_any (c k) (b k) (d k) (w.heap.size + 1) x U (by have := hU.1; omega) (hU.cell (by omega) (by omega) cx2))
    (by omega) (by omega) (Nat.le_refl _) (by rw [hs1]; exact cl) (by rw [hs1]; exact cf)
  rw [hs1] at st ⊢
  have ST := hide st
  clear st cl cf bO cA cx hb2
  gi_wp2
  refine wpIn_rangeFunc_ownG rfl (by omega) (gf := 39) (lb := #[.pointer (some ⟨w.heap.size + 3, 0, none⟩), .pointer (some ⟨w.heap.size + 3 + 1, 0, none⟩)]) rfl trivial (enters_of Try.func39 (by kernel_rfl) rfl)
    (unhide ST) KeptBut.trans (fun W l o o' hl hh _ _ => ⟨by simp [World.putObj], fun i hi _ => by simp [World.putObj, Array.getElem?_setIfInBounds, show l ≠ i by omega]⟩) (Below.refl _ _) (fun _ => rfl)
    (fun (pre : List (Fin len)) W => (∃ v, Boxed W (w.heap.size + 1 + 1) 22 v ∧ W.ownsRow w2.heap.size 36 15 v pre.length (pre.flatMap (fun i => cutV c b d x i.val)) ∧ True) ∧ (KeptBut w2.heap.size (w.heap.size + 1 + 1) w2 W ∧ Below w.heap.size w W))
    (fun _ _ _ => False)
    ?own
    (fun _ _ _ _ _ hs _ _ => hs)
    ⟨⟨_, bO2, World.ownsRow_nil _ _ _ _, trivial⟩, KeptBut.refl _ _ _, B2⟩ ?a1 ?assign ?body ?done (fun D c pre W _ _ h _ => h.elim)
  case own =>
    refine OwnFrom.and (Own.from (holdsRow_own w2.heap.size (w.heap.size + 1 + 1) 22 36 15 (fun (pre : List (Fin len)) => pre.length) (fun (pre : List (Fin len)) => pre.flatMap (fun i => cutV c b d x i.val)) (fun _ _ => True)) _) (OwnFrom.and (keptFrom (Nat.le_refl _) (Nat.le_refl _)) (ownFrom_below (Nat.le_refl _) (by omega)))
  case assign =>
    intro l x W K hK
    gi_wp2
    exact hK
  case body =>
    rintro l pre k W ⟨⟨v, hv, hrow, _⟩, hK, hB⟩ hlt
    have hc := hv.cell
    have hf := hv.frozen
    have HR := hide hrow
    have HVB := hide hv
    have hvl := hv.lt
    clear hrow hv
    obtain ⟨g, o, rfl, hg, hcc⟩ := unhide HH W hB.block hB.size (by have := k.isLt; omega)
    obtain ⟨c0, c1, c2, c3, c4, c5, c6, c7, c8, c9, c10, c11, c12, c13, c14⟩ := hcc k.val k.isLt
    have cA3 : W.cell? ⟨w.heap.size, 0, none⟩ = some (.slice (some ⟨g, o, none⟩) len cap) := hK.cell (by omega) (by omega) cA2
    have cx3 : W.cell? ⟨w.heap.size + 1, 0, none⟩ = some (.int .i64 x) := hK.cell (by omega) (by omega) cx2
    have b0 : (0 : Int) ≤ (k.val : Int) := by omega
    have b1 : (k.val : Int) < (len : Int) := by have := k.isLt; omega
    have hplen : pre.length ≤ 1000 := by omega
    have hsK := hK.1
    clear hcc
    cases hd : d k.val with
    | false =>
      rw [hd] at c14
      have hval : cutV c b d x k.val = cv15 (c k.val) (b k.val) false := by simp [cutV, cutC, cutB, cutD, isCut, hd, cv15]
      have HVAL := hide hval
      clear hval hd
      gi_wp2_with (gi_at_builtin; refine wpListIn_append_own _ rfl _ _ 22 rfl w2.heap.size 36 i0 zCall 15 120 Try.underlying22 hi hz0 hz1 hz2 rfl (by decide) _ _ _ rfl (((unhide HR).alloc _).alloc _) ⟨W.heap.size + 1, 0, none⟩ 1 1 (cv15 (c k.val) (b k.val) false) rfl rfl ?c1 ?c2 ?c3 ?c4 ?c5 ?_)
      case c1 =>
        intro j u hj
        have q := list_new (W.alloc (.cells #[.int .i64 (c k.val 0), .int .i64 (c k.val 1), .int .i64 (c k.val 2), .int .i64 (c k.val 3), .int .i64 (c k.val 4), .int .i64 (c k.val 5), .int .i64 (c k.val 6), .int .i64 (c k.val 7), .int .i64 (c k.val 8), .int .i64 (c k.val 9), .bool (b k.val), .int .i64 (c k.val 11), .int .i64 (c k.val 12), .int .i64 (c k.val 13), .bool false] 36)) (cv15 (c k.val) (b k.val) false) 36 j u hj
        rw [World.size_alloc] at q
        first | exact q | exact hj
      case c2 => first | (simp [Value.oneCell', cv15]; done) | (intro u hu; simp [cv15] at hu; rcases hu with h | h | h | h | h | h | h | h | h | h | h | h | h | h | h <;> subst h <;> rfl)
      case c3 => simp only [maxLen]; omega
      case c4 => omega
      case c5 => first | omega | (simp; omega)
      intro v' w3 hown' hgrow _
      obtain ⟨g', cap', rfl⟩ := ownsRow_succ hown'
      obtain ⟨hv1, hv2, hq1, hk2, hq2⟩ := Boxed.appended (e := 36) ((unhide HVB).alloc _) (by decide) (row_le ((unhide HR).alloc _) (Nat.zero_le _)) (Nat.zero_le _) (Nat.zero_le _) (row_le hown' (Nat.zero_le _)) hgrow
      clear hq1 hq2
      have hc1 := hv1.cell
      have hf1 := hv1.frozen
      have HV2 := hide hv2
      have HK2 := hide hk2
      have HV1 := hide hv1
      have HOW := hide hown'
      have HGR := hide hgrow
      clear hv1 hv2 hk2 hown' hgrow
      gi_wp2
      have hbel : Below w2.heap.size W w3 := (((Below.refl _ W).alloc hsK _).alloc (by simp; omega) _).grown (unhide HGR) (by simp; omega) (fun r hr => ((unhide HR).lt r hr).1)
      have hbel1 : Below w.heap.size W w3 := hbel.mono (by omega)
      refine ⟨((KeepsOthers.alloc W _).trans (unhide HK2)).from _, (KeptBut.below hbel (Nat.le_refl _)).trans ⟨by simp [World.setCell], fun i _ hne => Below.heap_setCell w3 _ _ i (fun e => hne (by simpa using e))⟩, ⟨_, unhide HV2, ?_, trivial⟩, hK.trans ((KeptBut.below hbel (Nat.le_refl _)).trans ⟨by simp [World.setCell], fun i _ hne => Below.heap_setCell w3 _ _ i (fun e => hne (by simpa using e))⟩), (hB.trans hbel1).setCell (p := ⟨w.heap.size + 1 + 1, 0, none⟩) (by show w.heap.size ≤ w.heap.size + 1 + 1; omega) _⟩
      have q := (unhide HOW).kept (grownBy_setCell' w3 (w.heap.size + 1 + 1) (.slice (some ⟨g', 0, none⟩) (pre.length + 1) cap')) (.inr ((unhide HV1).not_row (by decide) (unhide HOW)).symm)
      rw [← unhide HVAL] at q
      rw [hs2]
      simpa using q
    | true =>
      rw [hd] at c14
      have cx4 : (W.alloc (.cells #[.int .i64 (c k.val 0), .int .i64 (c k.val 1), .int .i64 (c k.val 2), .int .i64 (c k.val 3), .int .i64 (c k.val 4), .int .i64 (c k.val 5), .int .i64 (c k.val 6), .int .i64 (c k.val 7), .int .i64 (c k.val 8), .int .i64 (c k.val 9), .bool (b k.val), .int .i64 (c k.val 11), .int .i64 (c k.val 12), .int .i64 (c k.val 13), .bool true] 36)).cell? ⟨w.heap.size + 1, 0, none⟩ = some (.int .i64 x) := (((Below.refl _ W).alloc (Nat.le_refl _) _).cell (p := ⟨w.heap.size + 1, 0, none⟩) (by show w.heap.size + 1 < _; omega)).trans cx3
      by_cases hx : x < c k.val 13
      · have hval : cutV c b d x k.val = cv15 (fun j => if j ≤ 8 ∨ j = 12 then c k.val j else 0) false false := by simp [cutV, cutC, cutB, cutD, isCut, hd, hx, cv15]
        have HVAL := hide hval
        clear hval hd
        gi_wp2_with (gi_at_builtin; refine wpListIn_append_own _ rfl _ _ 22 rfl w2.heap.size 36 i0 zCall 15 120 Try.underlying22 hi hz0 hz1 hz2 rfl (by decide) _ _ _ rfl (((unhide HR).alloc _).alloc _) ⟨W.heap.size + 1, 0, none⟩ 1 1 (cv15 (fun j => if j ≤ 8 ∨ j = 12 then c k.val j else 0) false false) rfl rfl ?e1 ?e2 ?e3 ?e4 ?e5 ?_)
        case e1 =>
          intro j u hj
          have q := list_new (W.alloc (.cells #[.int .i64 (c k.val 0), .int .i64 (c k.val 1), .int .i64 (c k.val 2), .int .i64 (c k.val 3), .int .i64 (c k.val 4), .int .i64 (c k.val 5), .int .i64 (c k.val 6), .int .i64 (c k.val 7), .int .i64 (c k.val 8), .int .i64 0, .bool false, .int .i64 0, .int .i64 (c k.val 12), .int .i64 0, .bool false] 36)) (cv15 (fun j => if j ≤ 8 ∨ j = 12 then c k.val j else 0) false false) 36 j u hj
          rw [World.size_alloc] at q
          first | exact q | exact hj
        case e2 => first | (simp [Value.oneCell', cv15]; done) | (intro u hu; simp [cv15] at hu; rcases hu with h | h | h | h | h | h | h | h | h | h | h | h | h | h | h <;> subst h <;> rfl)
        case e3 => simp only [maxLen]; omega
        case e4 => omega
        case e5 => first | omega | (simp; omega)
        intro v' w3 hown' hgrow _
        obtain ⟨g', cap', rfl⟩ := ownsRow_succ hown'
        obtain ⟨hv1, hv2, hq1, hk2, hq2⟩ := Boxed.appended (e := 36) ((unhide HVB).alloc _) (by decide) (row_le ((unhide HR).alloc _) (Nat.zero_le _)) (Nat.zero_le _) (Nat.zero_le _) (row_le hown' (Nat.zero_le _)) hgrow
        clear hq1 hq2
        have hc1 := hv1.cell
        have hf1 := hv1.frozen
        have HV2 := hide hv2
        have HK2 := hide hk2
        have HV1 := hide hv1
        have HOW := hide hown'
        have HGR := hide hgrow
        clear hv1 hv2 hk2 hown' hgrow
        gi_wp2
        have hbel : Below w2.heap.size W w3 := (((Below.refl _ W).alloc hsK _).alloc (by simp; omega) _).grown (unhide HGR) (by simp; omega) (fun r hr => ((unhide HR).lt r hr).1)
        have hbel1 : Below w.heap.size W w3 := hbel.mono (by omega)
        refine ⟨((KeepsOthers.alloc W _).trans (unhide HK2)).from _, (KeptBut.below hbel (Nat.le_refl _)).trans ⟨by simp [World.setCell], fun i _ hne => Below.heap_setCell w3 _ _ i (fun e => hne (by simpa using e))⟩, ⟨_, unhide HV2, ?_, trivial⟩, hK.trans ((KeptBut.below hbel (Nat.le_refl _)).trans ⟨by simp [World.setCell], fun i _ hne => Below.heap_setCell w3 _ _ i (fun e => hne (by simpa using e))⟩), (hB.trans hbel1).setCell (p := ⟨w.heap.size + 1 + 1, 0, none⟩) (by show w.heap.size ≤ w.heap.size + 1 + 1; omega) _⟩
        have q := (unhide HOW).kept (grownBy_setCell' w3 (w.heap.size + 1 + 1) (.slice (some ⟨g', 0, none⟩) (pre.length + 1) cap')) (.inr ((unhide HV1).not_row (by decide) (unhide HOW)).symm)
        rw [← unhide HVAL] at q
        rw [hs2]
        simpa using q
      · have hval : cutV c b d x k.val = cv15 (c k.val) (b k.val) true := by simp [cutV, cutC, cutB, cutD, isCut, hd, hx, cv15]
        have HVAL := hide hval
        clear hval hd
        gi_wp2_with (gi_at_builtin; refine wpListIn_append_own _ rfl _ _ 22 rfl w2.heap.size 36 i0 zCall 15 120 Try.underlying22 hi hz0 hz1 hz2 rfl (by decide) _ _ _ rfl (((unhide HR).alloc _).alloc _) ⟨W.heap.size + 1, 0, none⟩ 1 1 (cv15 (c k.val) (b k.val) true) rfl rfl ?d1 ?d2 ?d3 ?d4 ?d5 ?_)
        case d1 =>
          intro j u hj
          have q := list_new (W.alloc (.cells #[.int .i64 (c k.val 0), .int .i64 (c k.val 1), .int .i64 (c k.val 2), .int .i64 (c k.val 3), .int .i64 (c k.val 4), .int .i64 (c k.val 5), .int .i64 (c k.val 6), .int .i64 (c k.val 7), .int .i64 (c k.val 8), .int .i64 (c k.val 9), .bool (b k.val), .int .i64 (c k.val 11), .int .i64 (c k.val 12), .int .i64 (c k.val 13), .bool true] 36)) (cv15 (c k.val) (b k.val) true) 36 j u hj
          rw [World.size_alloc] at q
          first | exact q | exact hj
        case d2 => first | (simp [Value.oneCell', cv15]; done) | (intro u hu; simp [cv15] at hu; rcases hu with h | h | h | h | h | h | h | h | h | h | h | h | h | h | h <;> subst h <;> rfl)
        case d3 => simp only [maxLen]; omega
        case d4 => omega
        case d5 => first | omega | (simp; omega)
        intro v' w3 hown' hgrow _
        obtain ⟨g', cap', rfl⟩ := ownsRow_succ hown'
        obtain ⟨hv1, hv2, hq1, hk2, hq2⟩ := Boxed.appended (e := 36) ((unhide HVB).alloc _) (by decide) (row_le ((unhide HR).alloc _) (Nat.zero_le _)) (Nat.zero_le _) (Nat.zero_le _) (row_le hown' (Nat.zero_le _)) hgrow
        clear hq1 hq2
        have hc1 := hv1.cell
        have hf1 := hv1.frozen
        have HV2 := hide hv2
        have HK2 := hide hk2
        have HV1 := hide hv1
        have HOW := hide hown'
        have HGR := hide hgrow
        clear hv1 hv2 hk2 hown' hgrow
        gi_wp2
        have hbel : Below w2.heap.size W w3 := (((Below.refl _ W).alloc hsK _).alloc (by simp; omega) _).grown (unhide HGR) (by simp; omega) (fun r hr => ((unhide HR).lt r hr).1)
        have hbel1 : Below w.heap.size W w3 := hbel.mono (by omega)
        refine ⟨((KeepsOthers.alloc W _).trans (unhide HK2)).from _, (KeptBut.below hbel (Nat.le_refl _)).trans ⟨by simp [World.setCell], fun i _ hne => Below.heap_setCell w3 _ _ i (fun e => hne (by simpa using e))⟩, ⟨_, unhide HV2, ?_, trivial⟩, hK.trans ((KeptBut.below hbel (Nat.le_refl _)).trans ⟨by simp [World.setCell], fun i _ hne => Below.heap_setCell w3 _ _ i (fun e => hne (by simpa using e))⟩), (hB.trans hbel1).setCell (p := ⟨w.heap.size + 1 + 1, 0, none⟩) (by show w.heap.size ≤ w.heap.size + 1 + 1; omega) _⟩
        have q := (unhide HOW).kept (grownBy_setCell' w3 (w.heap.size + 1 + 1) (.slice (some ⟨g', 0, none⟩) (pre.length + 1) cap')) (.inr ((unhide HV1).not_row (by decide) (unhide HOW)).symm)
        rw [← unhide HVAL] at q
        rw [hs2]
        simpa using q
  case done =>
    rintro D ys W hD hS ⟨⟨v, hv, hrow, _⟩, hKB, hB⟩ hK
    have hrow2 := ownsRow_putObj hrow (.deferred none) hK rfl
    have hfl : ys.flatMap (fun i => cutV c b d x i.val) = (plN (pCut c x) len).flatMap (cutV c b d x) := by rw [← hS, List.flatMap_map]
    have hln : ys.length = (plN (pCut c x) len).length := by rw [← hS, List.length_map]
    rw [hfl, hln] at hrow2
    have hc := hv.cell
    have HR := hide (row_le hrow2 B2.size)
    have hsW := hB.size
    clear hrow hrow2 hfl hln hv hS
    gi_wp2
    refine ⟨by simp, .inl ⟨_, _, rfl, run_takeDeferred hK, ?_⟩⟩
    exact ⟨_, results_tmp rfl _ _ _, ⟨v, rfl, unhide HR⟩, hB.trans (belowK_b (w := w) (Nat.le_refl _) W D _ _ (by omega) hK rfl rfl)⟩
end Go.Proofs.Ytahfoogcdgjimaa
