/- The walks of package history: places collected. -/
import Derived.Test.YtahfoogcdgjimaaHsE
namespace Go.Proofs.Ytahfoogcdgjimaa
set_option linter.unusedVariables false
set_option linter.unusedSimpArgs false
open Go.RowKit Go.Shelf

attribute [local go_sem] Oper.semAt_some

theorem row_le {w : World} {base base' size n : Nat} {e : TypeId} {v : Value} {xs : List Value} (h : w.ownsRow base e size v n xs) (hb : base' ≤ base) : w.ownsRow base' e size v n xs :=
  ⟨h.1, h.2.imp id (fun ⟨g, cap, cur, a, b, c⟩ => ⟨g, cap, cur, a, Nat.le_trans hb b, c⟩)⟩

set_option maxHeartbeats 2000000 in
theorem picked_any (A : Option Addr) (len cap : Nat) (f : Nat) (caps : Array Value) (w : World) :
    Calls Try.prog 30 #[.slice A len cap, .func (.func f) #[] caps] w fun e w' => e = .returned (.func (.func 39) #[] #[.pointer (some ⟨w.heap.size, 0, none⟩), .pointer (some ⟨w.heap.size + 1, 0, none⟩)]) ∧
      Below w.heap.size w w' ∧ w'.heap.size = w.heap.size + 2 ∧ w'.cell? ⟨w.heap.size, 0, none⟩ = some (.slice A len cap) ∧ w'.cell? ⟨w.heap.size + 1, 0, none⟩ = some (.func (.func f) #[] caps) := by
  go_enter Try.func30, Try.ntmps30
  go_wp2
  go_ret
  exact ⟨rfl, by repeat (first | exact Below.refl _ _ | assumption | refine Below.alloc ?_ (by first | (simp; done) | (simp; omega) | omega) _ | refine Below.setCell ?_ (by first | (simp; done) | (simp; omega) | omega) _ | apply Below.drew | refine Below.trans ?_ (Below.mono (by assumption) (by first | (simp; done) | (simp; omega) | omega))), by simp, by go_simp, by go_simp⟩

set_option maxRecDepth 100000 in
set_option maxHeartbeats 4000000 in
theorem appendSeq_any (bl bf : Nat) (L : List Nat) (m : Nat) (hL : L.length ≤ m) (hm : m ≤ 1000) (Sp : List Nat → Prop) (w : World)
    (HS : ∀ W, Below w.heap.size w W → SeqStopsK Fence.wide 7 Try.prog 39 #[.pointer (some ⟨bl, 0, none⟩), .pointer (some ⟨bf, 0, none⟩)] (fun i : Nat => #[Value.int .i64 (i : Int)]) (Below w.heap.size) (fun ys => ys = L) Sp m W) :
    Calls Try.prog 38 #[.slice none 0 0, .func (.func 39) #[] #[.pointer (some ⟨bl, 0, none⟩), .pointer (some ⟨bf, 0, none⟩)]] w fun e w' => (∃ A c, e = .returned (.slice A L.length c) ∧ RdL w' .i64 A (L.map (fun i : Nat => (i : Int)))) ∧ Below w.heap.size w w' := by
  have cs := hide HS
  clear HS
  obtain ⟨i0, hi, hz0, hz1, hz2⟩ := info_parts info_int10
  refine (callsIn_wide (n := 8)).1 ?_
  refine callsIn_of_wp_marks Try.func38 rfl trivial ?_ rfl
  simp only [Try.ntmps38, List.size_toArray, List.length_cons, List.length_nil, Nat.reduceAdd, Nat.reduceSub, Array.replicate_succ, Array.replicate_zero, List.push_toArray, List.append_toArray, List.nil_append, List.cons_append]
  gi_wp2
  obtain ⟨w2, hw2⟩ : ∃ W, W = w.alloc (.cells #[.slice none 0 0] 40) := ⟨_, rfl⟩
  have bO : Boxed w2 w.heap.size 40 (.slice none 0 0) := by rw [hw2]; exact Boxed.new w 40 (.slice none 0 0)
  have B2 : Below w.heap.size w w2 := by rw [hw2]; repeat (first | exact Below.refl _ _ | assumption | refine Below.alloc ?_ (by first | (simp; done) | (simp; omega) | omega) _ | refine Below.setCell ?_ (by first | (simp; done) | (simp; omega) | omega) _ | apply Below.drew | refine Below.trans ?_ (Below.mono (by assumption) (by first | (simp; done) | (simp; omega) | omega)))
  have hs2 : w2.heap.size = w.heap.size + 1 := by rw [hw2]; simp
  rw [← hw2]
  clear hw2
  refine wpIn_rangeFunc_ownG rfl (by omega) (gf := 39) (lb := #[.pointer (some ⟨bl, 0, none⟩), .pointer (some ⟨bf, 0, none⟩)]) rfl trivial (enters_of Try.func39 (by kernel_rfl) rfl)
    (unhide cs w2 B2) belowK_t (belowK_b (by omega)) (Below.refl _ _) (fun _ => rfl)
    (fun (pre : List Nat) W => (∃ v, Boxed W w.heap.size 40 v ∧ W.ownsRow w2.heap.size 3 1 v pre.length (pre.map (fun i : Nat => Value.int .i64 (i : Int))) ∧ True) ∧ (Below w.heap.size w W ∧ w2.heap.size ≤ W.heap.size))
    (fun _ _ _ => False)
    (OwnFrom.and (Own.from (holdsRow_own w2.heap.size w.heap.size 40 3 1 (fun (pre : List Nat) => pre.length) (fun (pre : List Nat) => pre.map (fun i : Nat => Value.int .i64 (i : Int))) (fun _ _ => True)) _) (OwnFrom.and (ownFrom_below (Nat.le_refl _) (by omega)) (fun _ _ _ _ hs hg _ => Nat.le_trans hs hg.size)))
    (fun _ _ _ _ _ hs _ _ => hs)
    ⟨⟨_, bO, World.ownsRow_nil _ _ _ _, trivial⟩, B2, Nat.le_refl _⟩ ?a1 ?assign ?body ?done (fun D c pre W _ _ h _ => h.elim)
  case assign =>
    intro l x W K hK
    gi_wp2
    exact hK
  case body =>
    rintro l pre x W ⟨⟨v, hv, hrow, _⟩, hB, hn₀⟩ hlt
    have hc := hv.cell
    have hf := hv.frozen
    have HR := hide hrow
    have HVB := hide hv
    have hvl := hv.lt
    have hplen : pre.length ≤ 1000 := by omega
    clear hrow hv
    gi_wp2_with (gi_at_builtin; refine wpListIn_append_own _ rfl _ _ 40 rfl w2.heap.size 3 i0 (.int .i64 0) 1 8 Try.underlying40 hi hz0 hz1 hz2 rfl (by decide) _ _ _ rfl ((unhide HR).alloc _) ⟨W.heap.size, 0, none⟩ 1 1 [.int .i64 (x : Int)] rfl rfl ?c1 ?c2 ?c3 ?c4 ?c5 ?_)
    case c1 => exact one_new _ _ _
    case c2 => simp [Value.oneCell']
    case c3 => simp only [maxLen]; omega
    case c4 => omega
    case c5 => simp; omega
    intro v' w3 hown' hgrow _
    obtain ⟨g', cap', rfl⟩ := ownsRow_succ hown'
    obtain ⟨hv1, hv2, hq1, hk2, hq2⟩ := Boxed.appended (e := 3) (unhide HVB) (by decide) (row_le (unhide HR) (Nat.zero_le _)) (Nat.zero_le _) (Nat.zero_le _) (row_le hown' (Nat.zero_le _)) hgrow
    clear hq1 hq2
    have hc1 := hv1.cell
    have hf1 := hv1.frozen
    have HV2 := hide hv2
    have HK2 := hide hk2
    have HV1 := hide hv1
    have HOW := hide hown'
    have HGR := hide hgrow
    clear hv1 hv2 hk2 hown' hgrow
    gi_wp2
    have hbel : Below w2.heap.size W w3 := ((Below.refl _ W).alloc hn₀ _).grown (unhide HGR) (by simp; omega) (fun r hr => ((unhide HR).lt r hr).1)
    have hbel1 : Below w.heap.size W w3 := hbel.mono (by omega)
    refine ⟨(unhide HK2).from _, hbel1.setCell (p := ⟨w.heap.size, 0, none⟩) (Nat.le_refl _) _, ⟨_, unhide HV2, ?_, trivial⟩, (hB.trans hbel1).setCell (p := ⟨w.heap.size, 0, none⟩) (Nat.le_refl _) _, by have := hbel.size; simpa using Nat.le_trans hn₀ this⟩
    have q := (unhide HOW).kept (grownBy_setCell' w3 w.heap.size (.slice (some ⟨g', 0, none⟩) (pre.length + 1) cap')) (.inr ((unhide HV1).not_row (by decide) (unhide HOW)).symm)
    rw [hs2]
    simpa using q
  case done =>
    rintro D ys W hD rfl ⟨⟨v, hv, hrow, _⟩, hB, hn₀⟩ hK
    have hrow2 := ownsRow_putObj hrow (.deferred none) hK rfl
    obtain ⟨A', c', rfl, hr⟩ := RdL.of_own (L := ys.map (fun i : Nat => (i : Int))) (by simpa [List.map_map, Function.comp_def] using hrow2)
    rw [List.length_map] at *
    have hc := hv.cell
    have HR := hide hr
    have hsW := hB.size
    clear hrow hrow2 hr hv
    gi_wp2
    refine ⟨by simp, .inl ⟨_, _, rfl, run_takeDeferred hK, ?_⟩⟩
    exact ⟨_, results_tmp rfl _ _ _, ⟨A', c', rfl, unhide HR⟩, hB.trans (belowK_b (w := w) (Nat.le_refl _) W D _ _ (by omega) hK rfl rfl)⟩

set_option maxHeartbeats 2000000 in
theorem collect_any (bl bf : Nat) (L : List Nat) (m : Nat) (hL : L.length ≤ m) (hm : m ≤ 1000) (Sp : List Nat → Prop) (w : World)
    (HS : ∀ W, Below w.heap.size w W → SeqStopsK Fence.wide 7 Try.prog 39 #[.pointer (some ⟨bl, 0, none⟩), .pointer (some ⟨bf, 0, none⟩)] (fun i : Nat => #[Value.int .i64 (i : Int)]) (Below w.heap.size) (fun ys => ys = L) Sp m W) :
    Calls Try.prog 29 #[.func (.func 39) #[] #[.pointer (some ⟨bl, 0, none⟩), .pointer (some ⟨bf, 0, none⟩)]] w fun e w' => (∃ A c, e = .returned (.slice A L.length c) ∧ RdL w' .i64 A (L.map (fun i : Nat => (i : Int)))) ∧ Below w.heap.size w w' := by
  have ca := hide (appendSeq_any bl bf L m hL hm Sp w HS)
  clear HS
  go_enter Try.func29, Try.ntmps29
  go_wp2_with fail
  refine (unhide ca).mono ?_
  rintro e w2 ⟨⟨A, c, rfl, hr⟩, hB⟩
  have HR := hide hr
  clear hr ca
  go_wp2
  go_ret
  exact ⟨⟨A, c, rfl, unhide HR⟩, hB⟩

set_option maxHeartbeats 2000000 in
theorem of_any (A : Option Addr) (len cap : Nat) (c : Nat → Nat → Int) (b d : Nat → Bool) (x : Int) (p : Nat → Bool) (hp : p = (pTh c x)) (hlen : len ≤ 1000) (w : World) (H : CallOk w A len c b d) :
    Calls Try.prog 15 #[.slice A len cap, .int .i64 x] w fun e w' => ∃ A' c', e = .returned (.slice A' (plc p len).length c') ∧ RdL w' .i64 A' (plc p len) ∧ Below w.heap.size w w' := by
  have HH := hide (fun W (hW : Below w.heap.size w W) => H.keep hW)
  have HP := hide hp
  clear H hp
  go_enter Try.func15, Try.ntmps15
  go_wp2_with fail
  refine (picked_any A len cap _ _ _).mono ?_
  rintro e w2 ⟨rfl, hb2, hs2, cl, cf⟩
  simp only [World.size_alloc] at hb2 hs2 cl cf
  have cx : w2.cell? ⟨w.heap.size, 0, none⟩ = some (.int .i64 x) := (hb2.cell (p := ⟨w.heap.size, 0, none⟩) (by simp)).trans (by go_simp)
  have B2 : Below w.heap.size w w2 := ((Below.refl _ w).alloc (Nat.le_refl _) _).trans (hb2.mono (by simp))
  clear hb2
  have hL := plN_len p len
  have cc := hide (collect_any (w.heap.size + 1) (w.heap.size + 1 + 1) (plN p len) len hL hlen _ w2 (fun W hW => of_stops 7 (by omega) A len cap c b d p w.heap.size (w.heap.size + 1) (w.heap.size + 1 + 1) w2.heap.size hlen W
    (fun U hU => unhide HH U (B2.trans ((hW.trans hU).mono (by omega))))
    (fun U k hk hU => by
      rw [show p k = (c k 0 == x) by rw [unhide HP]; rfl]
      exact of1_any (c k) (b k) (d k) w.heap.size x U (by have := (hW.trans hU).size; omega) (((hW.trans hU).cell (p := ⟨w.heap.size, 0, none⟩) (by show w.heap.size < _; omega)).trans cx))
    (by omega) (by omega) hW.size ((hW.cell (p := ⟨w.heap.size + 1, 0, none⟩) (by show w.heap.size + 1 < _; omega)).trans cl) ((hW.cell (p := ⟨w.heap.size + 1 + 1, 0, none⟩) (by show w.heap.size + 1 + 1 < _; omega)).trans cf)))
  clear cl cf cx
  go_wp2_with fail
  refine (unhide cc).mono ?_
  rintro e w3 ⟨⟨A', c', rfl, hr⟩, hB⟩
  rw [plN_plc] at hr
  have hlen3 : (plN p len).length = (plc p len).length := by rw [← plN_plc, List.length_map]
  rw [hlen3]
  have HR := hide hr
  clear hr cc hlen3
  go_wp2
  go_ret
  exact ⟨A', c', rfl, unhide HR, B2.trans (hB.mono (by omega))⟩
set_option maxHeartbeats 2000000 in
theorem at_any (A : Option Addr) (len cap : Nat) (c : Nat → Nat → Int) (b d : Nat → Bool) (x : Int) (p : Nat → Bool) (hp : p = (pAt c d x)) (hlen : len ≤ 1000) (w : World) (H : CallOk w A len c b d) :
    Calls Try.prog 19 #[.slice A len cap, .int .i64 x] w fun e w' => ∃ A' c', e = .returned (.slice A' (plc p len).length c') ∧ RdL w' .i64 A' (plc p len) ∧ Below w.heap.size w w' := by
  have HH := hide (fun W (hW : Below w.heap.size w W) => H.keep hW)
  have HP := hide hp
  clear H hp
  go_enter Try.func19, Try.ntmps19
  go_wp2_with fail
  refine (picked_any A len cap _ _ _).mono ?_
  rintro e w2 ⟨rfl, hb2, hs2, cl, cf⟩
  simp only [World.size_alloc] at hb2 hs2 cl cf
  have cx : w2.cell? ⟨w.heap.size, 0, none⟩ = some (.int .i64 x) := (hb2.cell (p := ⟨w.heap.size, 0, none⟩) (by simp)).trans (by go_simp)
  have B2 : Below w.heap.size w w2 := ((Below.refl _ w).alloc (Nat.le_refl _) _).trans (hb2.mono (by simp))
  clear hb2
  have hL := plN_len p len
  have cc := hide (collect_any (w.heap.size + 1) (w.heap.size + 1 + 1) (plN p len) len hL hlen _ w2 (fun W hW => at_stops 7 (by omega) A len cap c b d p w.heap.size (w.heap.size + 1) (w.heap.size + 1 + 1) w2.heap.size hlen W
    (fun U hU => unhide HH U (B2.trans ((hW.trans hU).mono (by omega))))
    (fun U k hk hU => by
      rw [show p k = undB (c k) (d k) x by rw [unhide HP]; rfl]
      exact at1_any (c k) (b k) (d k) w.heap.size x U (by have := (hW.trans hU).size; omega) (((hW.trans hU).cell (p := ⟨w.heap.size, 0, none⟩) (by show w.heap.size < _; omega)).trans cx))
    (by omega) (by omega) hW.size ((hW.cell (p := ⟨w.heap.size + 1, 0, none⟩) (by show w.heap.size + 1 < _; omega)).trans cl) ((hW.cell (p := ⟨w.heap.size + 1 + 1, 0, none⟩) (by show w.heap.size + 1 + 1 < _; omega)).trans cf)))
  clear cl cf cx
  go_wp2_with fail
  refine (unhide cc).mono ?_
  rintro e w3 ⟨⟨A', c', rfl, hr⟩, hB⟩
  rw [plN_plc] at hr
  have hlen3 : (plN p len).length = (plc p len).length := by rw [← plN_plc, List.length_map]
  rw [hlen3]
  have HR := hide hr
  clear hr cc hlen3
  go_wp2
  go_ret
  exact ⟨A', c', rfl, unhide HR, B2.trans (hB.mono (by omega))⟩

set_option maxHeartbeats 2000000 in
theorem open_any (A : Option Addr) (len cap : Nat) (c : Nat → Nat → Int) (b d : Nat → Bool) (p : Nat → Bool) (hp : p = pOp d) (hlen : len ≤ 1000) (w : World) (H : CallOk w A len c b d) :
    Calls Try.prog 17 #[.slice A len cap] w fun e w' => ∃ A' c', e = .returned (.slice A' (plc p len).length c') ∧ RdL w' .i64 A' (plc p len) ∧ Below w.heap.size w w' := by
  have HH := hide (fun W (hW : Below w.heap.size w W) => H.keep hW)
  have HP := hide hp
  clear H hp
  go_enter Try.func17, Try.ntmps17
  go_wp2_with fail
  refine (picked_any A len cap _ _ _).mono ?_
  rintro e w2 ⟨rfl, B2, hs2, cl, cf⟩
  have hL := plN_len p len
  have cc := hide (collect_any w.heap.size (w.heap.size + 1) (plN p len) len hL hlen _ w2 (fun W hW => open_stops 7 (by omega) A len cap c b d p 0 w.heap.size (w.heap.size + 1) w2.heap.size hlen W
    (fun U hU => unhide HH U (B2.trans ((hW.trans hU).mono (by omega))))
    (fun U k hk hU => by
      rw [show p k = !d k by rw [unhide HP]; rfl]
      exact open1_any (c k) (b k) (d k) U)
    (by omega) (by omega) hW.size ((hW.cell (p := ⟨w.heap.size, 0, none⟩) (by show w.heap.size < _; omega)).trans cl) ((hW.cell (p := ⟨w.heap.size + 1, 0, none⟩) (by show w.heap.size + 1 < _; omega)).trans cf)))
  clear cl cf
  go_wp2_with fail
  refine (unhide cc).mono ?_
  rintro e w3 ⟨⟨A', c', rfl, hr⟩, hB⟩
  rw [plN_plc] at hr
  have hlen3 : (plN p len).length = (plc p len).length := by rw [← plN_plc, List.length_map]
  rw [hlen3]
  have HR := hide hr
  clear hr cc hlen3
  go_wp2
  go_ret
  exact ⟨A', c', rfl, unhide HR, B2.trans (hB.mono (by omega))⟩
end Go.Proofs.Ytahfoogcdgjimaa
