/- The walk of package log: the words behind all. -/
import Derived.Test.YtdkpadiaikfdpaaLgJ
namespace Go.Proofs.Ytdkpadiaikfdpaa
set_option linter.unusedVariables false
set_option linter.unusedSimpArgs false
open Go.RowKit Go.Shelf

attribute [local go_sem] Oper.semAt_some

/-- The iterator of an arena that is there, one block left to the body. -/
theorem all_stopsB (n : Nat) (hn : 1 ≤ n) (g h m Bs : Nat) (xs : Nat → Int) (n₀ : Nat) (w : World) (hI : IsAr w g h m xs) (hg : g < n₀) (hh : h < n₀) (hBs : Bs < n₀) (hn₀ : n₀ ≤ w.heap.size) (hx : Nat) (hgx : g ≠ hx) (hhx : h ≠ hx) (hBx : Bs ≠ hx) (hc : w.cell? ⟨Bs, 0, none⟩ = some (.pointer (some ⟨g, 0, none⟩))) :
    SeqStopsK Fence.wide n Try.prog 45 #[.pointer (some ⟨Bs, 0, none⟩)] (fun i : Nat => #[Value.int .i64 (i : Int), Value.int .u64 (xs i)]) (KeptBut n₀ hx) (fun ys => ys = List.range m) (fun pre => ∃ k, k ≤ m ∧ pre = List.range k) m w := by
  intro l J Jx W hW hJ hJx hY h0
  have hI2 : IsAr W g h m xs := hI.keep hW
  have hBs2 : W.cell? ⟨Bs, 0, none⟩ = some (.pointer (some ⟨g, 0, none⟩)) := (hW.cell (p := ⟨Bs, 0, none⟩) (Nat.lt_of_lt_of_le hBs hn₀)).trans hc
  have hsW : n₀ ≤ W.heap.size := Nat.le_trans hn₀ hW.size
  have HI := hide hI2
  clear hI hI2
  show CallsIn Fence.wide n Try.prog 45 #[.func (.yield l) #[] #[], .pointer (some ⟨Bs, 0, none⟩)] W _
  refine callsIn_of_wp Try.func45 rfl trivial ?_ rfl
  simp only [Try.ntmps45, List.size_toArray, List.length_cons, List.length_nil, Nat.reduceAdd, Nat.reduceSub, Array.replicate_succ, Array.replicate_zero, List.push_toArray, List.append_toArray, List.nil_append, List.cons_append]
  refine wideScope ?_
  gi_wp2
  refine wpIn_label ?_
  gi_wp2
  refine ⟨trivial, ?_⟩
  refine (callsIn_wide.2 (len_any g h m xs W (unhide HI))).mono ?_
  rintro e w1 ⟨rfl, hw1⟩
  have hB1 : KeptBut n₀ hx W w1 := KeptBut.below hw1 hsW
  have hJ1 : J [] w1 := hJ _ _ _ none h0 (grown_below hw1 none) (by intro r e; cases e)
  gi_wp2
  gi_loopw [6] (fun i wr => ∃ k : Nat, k ≤ m ∧ i = .int .i64 k ∧ J (List.range k) wr ∧ KeptBut n₀ hx W wr) (fun i _ => m - (intOf i).toNat)
  case atStart => exact ⟨0, Nat.zero_le _, rfl, hJ1, hB1⟩
  case round =>
    obtain ⟨k, hk, rfl, hJs, hnx⟩ := hrel
    by_cases hlt : k < m
    · obtain ⟨i1, i2, i3, i4, i5, i6⟩ := unhide HI
      have q0 : wr.cell? ⟨Bs, 0, none⟩ = some (.pointer (some ⟨g, 0, none⟩)) := hnx.cell hBs hBx hBs2
      have q1 : wr.cell? ⟨g, 0, none⟩ = some (.slice (some ⟨h, 0, none⟩) m m) := hnx.cell hg hgx i1
      have q2 : wr.cell? ⟨h, k, none⟩ = some (.int .u64 (xs k)) := hnx.cell hh hhx (i6 k hlt).1
      obtain ⟨fn, tmps, assign, body, hy, hR⟩ := hY (List.range k) k wr hJs (by simpa using hlt)
      have hm : m ≤ 16384 := i5.2
      clear i1 i6 hBs2 hc
      gi_wp2
      refine hR.mono ?_
      rintro e W3 (⟨rfl, hJ3, hk3⟩ | ⟨rfl, hJx3⟩)
      · gi_wp2
        go_roundw
        case rel => exact ⟨k + 1, by omega, by go_num, by rw [List.range_succ]; exact hJ3, hnx.trans hk3⟩
        case measure => simp [intOf]; omega
      · gi_wp2
        (try simp only [Exit.noGoto])
        go_end0
        exact ⟨⟨_, rfl⟩, .inr ⟨_, ⟨k + 1, by omega, List.range_succ.symm⟩, hJx3⟩⟩
    · obtain rfl : k = m := by omega
      gi_wp2
      (try simp only [Exit.noGoto])
      go_end0
      exact ⟨⟨_, rfl⟩, .inl ⟨_, rfl, hJs⟩⟩

theorem row_le {w : World} {base base' size n : Nat} {e : TypeId} {v : Value} {xs : List Value} (h : w.ownsRow base e size v n xs) (hb : base' ≤ base) : w.ownsRow base' e size v n xs :=
  ⟨h.1, h.2.imp id (fun ⟨g, cap, cur, a, b, c⟩ => ⟨g, cap, cur, a, Nat.le_trans hb b, c⟩)⟩

/-- What End answers. -/
def EndTo (w' : World) (m : Nat) (z : Nat → Int) (st : Nat → Nat → Int) (len : Nat) (e : Ending) : Prop :=
  ((∀ i, i < len → okS m z st i = true) ∧ ∃ b c, e = .returned (.tuple #[.slice (some ⟨b, 0, none⟩) m c, .int .i64 0]) ∧ b < w'.heap.size ∧ ∀ i, i < m → w'.cell? ⟨b, 0 + i, none⟩ = some (.int .u64 (aft m z st len i))) ∨
  ((∃ k, k < len ∧ okS m z st k = false) ∧ e = .returned (.tuple #[.slice none 0 0, .int .i64 220]))

theorem info_u64' : (Try.prog.info? 40).map (fun i => (i.zero, i.size, i.bytes)) = some (some (.int .u64 0), 1, 8) := by kernel_rfl

set_option maxRecDepth 100000 in
set_option maxHeartbeats 4000000 in
theorem end_yes (b o m cap : Nat) (z : Nat → Int) (hm1 : 1 ≤ m) (hm2 : m ≤ 16384) (A : Option Addr) (len cap2 : Nat) (st : Nat → Nat → Int) (hlen : len ≤ 9223372036854775807) (w : World) (hb : b < w.heap.size)
    (hc : ∀ i, i < m → w.cell? ⟨b, o + i, none⟩ = some (.int .u64 (z i))) (hS : StOk w A len st) :
    Calls Try.prog 12 #[.slice (some ⟨b, o, none⟩) m cap, .slice A len cap2] w fun e w' => EndTo w' m z st len e ∧ Below w.heap.size w w' := by
  have cp := hide (play_end b o m cap z hm1 hm2 A len cap2 st hlen w hb hc hS)
  clear hc hS
  obtain ⟨i0, hi, hz0, hz1, hz2⟩ := info_parts info_u64'
  refine (callsIn_wide (n := 8)).1 ?_
  refine callsIn_of_wp_marks Try.func12 rfl trivial ?_ rfl
  simp only [Try.ntmps12, List.size_toArray, List.length_cons, List.length_nil, Nat.reduceAdd, Nat.reduceSub, Array.replicate_succ, Array.replicate_zero, List.push_toArray, List.append_toArray, List.nil_append, List.cons_append]
  gi_wp2
  refine ⟨trivial, ?_⟩
  refine (callsIn_wide.2 (unhide cp)).mono ?_
  rintro e w1 ⟨hP, hB1⟩
  have hs1 := hB1.size
  clear cp
  rcases hP with ⟨hok, g, h, rfl, hg, hh, hA⟩ | ⟨hbad, rfl⟩
  · have HOK := hide hok
    have HA := hide hA
    clear hok hA
    gi_wp2
    refine ⟨trivial, ?_⟩
    refine (callsIn_wide.2 (all_any _ ⟨_, rfl⟩ _)).mono ?_
    rintro e w2 ⟨rfl, hE⟩
    have bO : Boxed w2 (w1.heap.size + 1) 22 (.slice none 0 0) := by
      have q := (Boxed.new (w1.alloc (.cells #[.pointer (some ⟨g, 0, none⟩)] 58)) 22 (.slice none 0 0)).alloc (.cells #[.pointer (some ⟨g, 0, none⟩)] 56)
      rw [World.size_alloc] at q
      rw [← hE]
      exact q
    have q1 : w2.cell? ⟨w1.heap.size + 1 + 1, 0, none⟩ = some (.pointer (some ⟨g, 0, none⟩)) := by subst hE; go_simp
    have hb2 : Below w1.heap.size w1 w2 := by rw [← hE]; repeat (first | exact Below.refl _ _ | assumption | refine Below.alloc ?_ (by first | (simp; done) | (simp; omega) | omega) _ | refine Below.setCell ?_ (by first | (simp; done) | (simp; omega) | omega) _ | apply Below.drew | refine Below.trans ?_ (Below.mono (by assumption) (by first | (simp; done) | (simp; omega) | omega)))
    have hs2 : w2.heap.size = w1.heap.size + 3 := by rw [← hE]; simp
    have hgs : g < w1.heap.size := (unhide HA).2.1
    have hhs : h < w1.heap.size := (unhide HA).2.2.1
    have HA2 := hide ((unhide HA).keep hb2)
    have B2 := hB1.trans (hb2.mono hs1)
    clear hE
    gi_wp2
    refine wpIn_rangeFunc_ownG rfl (by omega) (gf := 45) (lb := #[.pointer (some ⟨w1.heap.size + 1 + 1, 0, none⟩)]) rfl trivial (enters_of Try.func45 (by kernel_rfl) rfl)
      (all_stopsB 7 (by omega) g h m (w1.heap.size + 1 + 1) (aft m z st len) w2.heap.size w2 (unhide HA2) (by omega) (by omega) (by omega) (Nat.le_refl _) (w1.heap.size + 1) (by omega) (by omega) (by omega) q1)
      KeptBut.trans (fun W l o o' hl hh _ _ => ⟨by simp [World.putObj], fun i hi _ => by simp [World.putObj, Array.getElem?_setIfInBounds, show l ≠ i by omega]⟩) (Below.refl _ _) (fun _ => rfl)
      (fun (pre : List Nat) W => (∃ v, Boxed W (w1.heap.size + 1) 22 v ∧ W.ownsRow w2.heap.size 40 1 v pre.length (pre.map (fun i => Value.int .u64 (aft m z st len i))) ∧ True) ∧ (Below w.heap.size w W ∧ w2.heap.size ≤ W.heap.size))
      (fun _ _ _ => False)
      (OwnFrom.and (Own.from (holdsRow_own w2.heap.size (w1.heap.size + 1) 22 40 1 (fun (pre : List Nat) => pre.length) (fun (pre : List Nat) => pre.map (fun i => Value.int .u64 (aft m z st len i))) (fun _ _ => True)) _) (OwnFrom.and (ownFrom_below (Nat.le_refl _) (by omega)) (fun _ _ _ _ hs hg _ => Nat.le_trans hs hg.size)))
      (fun _ _ _ _ _ hs _ _ => hs)
      ⟨⟨_, bO, World.ownsRow_nil _ _ _ _, trivial⟩, B2, Nat.le_refl _⟩ ?a1 ?assign ?body ?done (fun D c pre W _ _ h _ => h.elim)
    case assign =>
      intro l x W K hK
      gi_wp2
      exact hK
    case body =>
      rintro l pre x W ⟨⟨v, hv, hrow, _⟩, hB, hn₀⟩ hlt
      have hc := hv.cell
      have hf := hv.frozen
      have HR := hide hrow
      have HVB := hide hv
      have hvl := hv.lt
      have hplen : pre.length ≤ 16384 := by omega
      clear hrow hv
      gi_wp2_with (gi_at_builtin; refine wpListIn_append_own _ rfl _ _ 22 rfl w2.heap.size 40 i0 (.int .u64 0) 1 8 Try.underlying22 hi hz0 hz1 hz2 rfl (by decide) _ _ _ rfl ((unhide HR).alloc _) ⟨W.heap.size, 0, none⟩ 1 1 [.int .u64 (aft m z st len x)] rfl rfl ?c1 ?c2 ?c3 ?c4 ?c5 ?_)
      case c1 => exact one_new _ _ _
      case c2 => simp [Value.oneCell']
      case c3 => simp only [maxLen]; omega
      case c4 => omega
      case c5 => simp; omega
      intro v' w3 hown' hgrow _
      obtain ⟨g', cap', rfl⟩ := ownsRow_succ hown'
      obtain ⟨hv1, hv2, hq1, hk2, hq2⟩ := Boxed.appended (e := 40) (unhide HVB) (by decide) (row_le (unhide HR) (Nat.zero_le _)) (Nat.zero_le _) (Nat.zero_le _) (row_le hown' (Nat.zero_le _)) hgrow
      clear hq1 hq2
      have hc1 := hv1.cell
      have hf1 := hv1.frozen
      have HV2 := hide hv2
      have HK2 := hide hk2
      have HV1 := hide hv1
      have HOW := hide hown'
      have HGR := hide hgrow
      clear hv1 hv2 hk2 hown' hgrow
      gi_wp2
      have hbel : Below w2.heap.size W w3 := ((Below.refl _ W).alloc hn₀ _).grown (unhide HGR) (by simp; omega) (fun r hr => ((unhide HR).lt r hr).1)
      refine ⟨(unhide HK2).from _, (KeptBut.below hbel (Nat.le_refl _)).trans ⟨by simp [World.setCell], fun i _ hne => Below.heap_setCell w3 _ _ i (fun e => hne (by simpa using e))⟩, ⟨_, unhide HV2, ?_, trivial⟩, (hB.trans (hbel.mono (by omega))).setCell (p := ⟨w1.heap.size + 1, 0, none⟩) (by show w.heap.size ≤ w1.heap.size + 1; omega) _, by have := hbel.size; simpa using Nat.le_trans hn₀ this⟩
      have q := (unhide HOW).kept (grownBy_setCell' w3 (w1.heap.size + 1) (.slice (some ⟨g', 0, none⟩) (pre.length + 1) cap')) (.inr ((unhide HV1).not_row (by decide) (unhide HOW)).symm)
      rw [hs2]
      simpa using q
    case done =>
      rintro D ys W hD rfl ⟨⟨v, hv, hrow, _⟩, hB, hn₀⟩ hK
      rw [List.length_range] at hrow
      obtain ⟨g', cap', rfl, hg1, hg2⟩ := hrow.form (by omega)
      have hc := hv.cell
      have HR := hide (ownsRow_putObj hrow (.deferred none) hK rfl)
      have hsW := hB.size
      clear hrow hv
      gi_wp2
      refine ⟨by simp, .inl ⟨_, _, rfl, run_takeDeferred hK, ?_⟩⟩
      refine ⟨_, results_tmp2 rfl _ _ _, .inl ⟨unhide HOK, g', cap', rfl, ?_, ?_⟩, hB.trans (belowK_b (w := w) (Nat.le_refl _) W D _ _ (by omega) hK rfl rfl)⟩
      · exact ((unhide HR).lt g' rfl).2
      · intro i hi
        have q := (unhide HR).cells (g := g') rfl i (.int .u64 (aft m z st len i)) (by simp [hi])
        rw [show (⟨g', 0, none⟩ : Addr).add i = ⟨g', 0 + i, none⟩ from by unfold Addr.add; split <;> simp_all] at q
        exact q
  · have HB := hide hbad
    clear hbad
    gi_wp2
    refine ⟨trivial, ?_⟩
    refine (callsIn_wide.2 (all_any _ ⟨_, rfl⟩ _)).mono ?_
    rintro e w2 ⟨rfl, hE⟩
    have q1 : w2.cell? ⟨w1.heap.size + 1 + 1, 0, none⟩ = some (.pointer none) := by subst hE; go_simp
    have q2 : w2.cell? ⟨w1.heap.size + 1, 0, none⟩ = some (.slice none 0 0) := by subst hE; go_simp
    have hb2 : Below w1.heap.size w1 w2 := by rw [← hE]; repeat (first | exact Below.refl _ _ | assumption | refine Below.alloc ?_ (by first | (simp; done) | (simp; omega) | omega) _ | refine Below.setCell ?_ (by first | (simp; done) | (simp; omega) | omega) _ | apply Below.drew | refine Below.trans ?_ (Below.mono (by assumption) (by first | (simp; done) | (simp; omega) | omega)))
    have hs2 : w2.heap.size = w1.heap.size + 3 := by rw [← hE]; simp
    have B2 := hB1.trans (hb2.mono hs1)
    clear hE
    gi_wp2
    refine wpIn_rangeFunc_ownG rfl (by omega) (gf := 45) (lb := #[.pointer (some ⟨w1.heap.size + 1 + 1, 0, none⟩)]) rfl trivial (enters_of Try.func45 (by kernel_rfl) rfl)
      (all_stops_gone 7 (by omega) none (w1.heap.size + 1 + 1) w2.heap.size w2 (.inl rfl) (by omega) (Nat.le_refl _) q1) belowK_t (belowK_b (Nat.le_refl _)) (Below.refl _ _) (fun _ => rfl)
      (fun _ W => Below w2.heap.size w2 W) (fun _ _ _ => False) (ownFrom_below (Nat.le_refl _) (Nat.le_refl _)) (fun _ _ _ _ _ hs _ _ => hs) (Below.refl _ _)
      ?a2 ?assign2 (fun l pre x W _ hl => absurd hl (by simp)) ?done2 (fun D c pre W _ _ h _ => h.elim)
    case assign2 =>
      intro l x W K hK
      gi_wp2
      exact hK
    case done2 =>
      rintro D ys W hD rfl hBW hK
      have hc := (hBW.cell (p := ⟨w1.heap.size + 1, 0, none⟩) (by show w1.heap.size + 1 < _; omega)).trans q2
      have hsW := hBW.size
      have hB3 := B2.trans (hBW.mono (by omega))
      clear hBW
      gi_wp2
      refine ⟨by simp, .inl ⟨_, _, rfl, run_takeDeferred hK, ?_⟩⟩
      exact ⟨_, results_tmp2 rfl _ _ _, .inr ⟨unhide HB, rfl⟩, hB3.trans (belowK_b (w := w) (Nat.le_refl _) W D _ _ (by omega) hK rfl rfl)⟩

set_option maxRecDepth 100000 in
set_option maxHeartbeats 4000000 in
theorem end_no (B : Option Addr) (m cap : Nat) (hm : m ≤ 9223372036854775807) (hn : ¬ (1 ≤ m ∧ m ≤ 16384)) (A : Option Addr) (len cap2 : Nat) (w : World) :
    Calls Try.prog 12 #[.slice B m cap, .slice A len cap2] w fun e w' => e = .returned (.tuple #[.slice none 0 0, .int .i64 2]) ∧ Below w.heap.size w w' := by
  have cp := hide (fun F => play_no B m cap hm hn (.slice A len cap2) F w)
  clear hn
  refine (callsIn_wide (n := 8)).1 ?_
  refine callsIn_of_wp_marks Try.func12 rfl trivial ?_ rfl
  simp only [Try.ntmps12, List.size_toArray, List.length_cons, List.length_nil, Nat.reduceAdd, Nat.reduceSub, Array.replicate_succ, Array.replicate_zero, List.push_toArray, List.append_toArray, List.nil_append, List.cons_append]
  gi_wp2
  refine ⟨trivial, ?_⟩
  refine (callsIn_wide.2 (unhide cp _)).mono ?_
  rintro e w1 ⟨rfl, hB1⟩
  have hs1 := hB1.size
  clear cp
  gi_wp2
  refine ⟨trivial, ?_⟩
  refine (callsIn_wide.2 (all_any _ ⟨_, rfl⟩ _)).mono ?_
  rintro e w2 ⟨rfl, hE⟩
  have q1 : w2.cell? ⟨w1.heap.size + 1 + 1, 0, none⟩ = some (.pointer none) := by subst hE; go_simp
  have q2 : w2.cell? ⟨w1.heap.size + 1, 0, none⟩ = some (.slice none 0 0) := by subst hE; go_simp
  have hb2 : Below w1.heap.size w1 w2 := by rw [← hE]; repeat (first | exact Below.refl _ _ | assumption | refine Below.alloc ?_ (by first | (simp; done) | (simp; omega) | omega) _ | refine Below.setCell ?_ (by first | (simp; done) | (simp; omega) | omega) _ | apply Below.drew | refine Below.trans ?_ (Below.mono (by assumption) (by first | (simp; done) | (simp; omega) | omega)))
  have hs2 : w2.heap.size = w1.heap.size + 3 := by rw [← hE]; simp
  have B2 := hB1.trans (hb2.mono hs1)
  clear hE
  gi_wp2
  refine wpIn_rangeFunc_ownG rfl (by omega) (gf := 45) (lb := #[.pointer (some ⟨w1.heap.size + 1 + 1, 0, none⟩)]) rfl trivial (enters_of Try.func45 (by kernel_rfl) rfl)
    (all_stops_gone 7 (by omega) none (w1.heap.size + 1 + 1) w2.heap.size w2 (.inl rfl) (by omega) (Nat.le_refl _) q1) belowK_t (belowK_b (Nat.le_refl _)) (Below.refl _ _) (fun _ => rfl)
    (fun _ W => Below w2.heap.size w2 W) (fun _ _ _ => False) (ownFrom_below (Nat.le_refl _) (Nat.le_refl _)) (fun _ _ _ _ _ hs _ _ => hs) (Below.refl _ _)
    ?a1 ?assign (fun l pre x W _ hl => absurd hl (by simp)) ?done (fun D c pre W _ _ h _ => h.elim)
  case assign =>
    intro l x W K hK
    gi_wp2
    exact hK
  case done =>
    rintro D ys W hD rfl hBW hK
    have hc := (hBW.cell (p := ⟨w1.heap.size + 1, 0, none⟩) (by show w1.heap.size + 1 < _; omega)).trans q2
    have hsW := hBW.size
    have hB3 := B2.trans (hBW.mono (by omega))
    clear hBW
    gi_wp2
    refine ⟨by simp, .inl ⟨_, _, rfl, run_takeDeferred hK, ?_⟩⟩
    exact ⟨_, results_tmp2 rfl _ _ _, rfl, hB3.trans (belowK_b (w := w) (Nat.le_refl _) W D _ _ (by omega) hK rfl rfl)⟩
end Go.Proofs.Ytdkpadiaikfdpaa
