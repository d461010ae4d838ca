/- The walk of HistoryOrders: it returns true. -/
import Derived.Test.YtahfoogcdgjimaaHsO
namespace Go.Proofs.Ytahfoogcdgjimaa
set_option linter.unusedVariables false
set_option linter.unusedSimpArgs false
open Go.RowKit

theorem nodup_le : ∀ (n : Nat) (l : List Nat), l.Nodup → (∀ x ∈ l, x < n) → l.length ≤ n
  | 0, l, _, h => by
    cases l with
    | nil => simp
    | cons a t => have := h a (by simp); omega
  | n + 1, l, hn, h => by
    have h1 := nodup_le n (l.erase n) (hn.erase n) (fun x hx => by
      have hx1 := h x (List.mem_of_mem_erase hx)
      have hx2 : x ≠ n := fun e => by
        subst e
        exact hn.not_mem_erase hx
      omega)
    have h2 := List.length_erase (a := n) (l := l)
    split at h2 <;> omega

theorem under_apart {c : Nat → Nat → Int} {b d : Nat → Bool} {n x : Int} {len i j : Nat} (H : HistTo c b d n len) (hi : i < len) (hj : j < i) (h1 : undB (c i) (d i) x = true) (h2 : undB (c j) (d j) x = true) : c j 0 ≠ c i 0 := fun e => by
  have t := ((twoB_iff _ _ _ _).1 ((H i hi).2 j hj)).2.2.2 e
  unfold ahdB at t
  unfold undB at h1 h2
  simp only [Bool.and_eq_true, decide_eq_true_eq, Bool.or_eq_true, Bool.not_eq_true'] at t h1 h2
  obtain ⟨t1, t2⟩ := t
  rcases h2.2 with q | q
  · rw [t1] at q; cases q
  · omega

theorem one_facts {a : Nat → Int} {b d : Bool} {n : Int} (h : oneB a b d n = true) : 0 ≤ a 0 ∧ a 0 < n ∧ 0 ≤ a 12 ∧ (d = true → a 12 ≤ a 13) := by
  unfold oneB at h
  simp only [Bool.and_eq_true, decide_eq_true_eq] at h
  exact ⟨h.1.1, h.1.2.1, h.1.2.2, fun hd => by have := h.2; rw [hd] at this; simpa using this⟩

theorem under_le {c : Nat → Nat → Int} {b d : Nat → Bool} {x : Int} {len : Nat} (H : HistTo c b d 8 len) : (plc (pAt c d x) len).length ≤ 8 := by
  have hl : (plc (pAt c d x) len).length = ((plN (pAt c d x) len).map (fun i => (c i 0).toNat)).length := by rw [← plN_plc]; simp
  rw [hl]
  have hm : ∀ i, i ∈ plN (pAt c d x) len → i < len ∧ undB (c i) (d i) x = true := fun i hi => by
    unfold plN at hi
    simpa [pAt] using hi
  refine nodup_le 8 _ ?_ (fun t ht => ?_)
  · unfold List.Nodup
    rw [List.pairwise_map]
    have hp : (plN (pAt c d x) len).Pairwise (· < ·) := by
      unfold plN
      exact List.Pairwise.filter _ List.pairwise_lt_range
    refine hp.imp_of_mem (fun {j i} hj hi hlt => ?_)
    obtain ⟨h1, h2⟩ := hm i hi
    obtain ⟨h3, h4⟩ := hm j hj
    have h5 := under_apart H h1 hlt h2 h4
    have h6 := one_facts (H i h1).1
    have h7 := one_facts (H j h3).1
    omega
  · obtain ⟨i, hi, rfl⟩ := List.mem_map.1 ht
    have := one_facts (H i (hm i hi).1).1
    omega

theorem most_le {c : Nat → Nat → Int} {b d : Nat → Bool} {len : Nat} (H : HistTo c b d 8 len) : ∀ n, mostI c d len n ≤ 8
  | 0 => by rw [mostI]; omega
  | n + 1 => by
    have h1 := most_le H n
    have h2 := under_le (x := c n 12) H
    rw [mostI]
    omega

theorem hist_zero {c : Nat → Nat → Int} {b d : Nat → Bool} {n : Int} {len : Nat} (h : chkI c b d n len = 0) : HistTo c b d n len := by
  unfold chkI at h
  split at h
  · cases h
  split at h
  · cases h
  split at h
  · assumption
  · cases h

/-- Not both ways; each thread's calls are parted. -/
theorem ord_no {c : Nat → Nat → Int} {b d : Nat → Bool} {n : Int} {len i k : Nat} (H : HistTo c b d n len) (hi : i < len) (hk : k < len) : ahdB (c i) (d i) (c k) = true → ahdB (c k) (d k) (c i) = false := fun h => by
  have h1 := (one_facts (H i hi).1).2.2.2
  have h2 := (one_facts (H k hk).1).2.2.2
  unfold ahdB at h ⊢
  simp only [Bool.and_eq_true, decide_eq_true_eq, Bool.and_eq_false_iff, decide_eq_false_iff_not] at h ⊢
  have := h1 h.1
  by_cases hd : d k = true
  · have := h2 hd; exact .inr (by omega)
  · exact .inl (by simpa using hd)

theorem ord_thread {c : Nat → Nat → Int} {b d : Nat → Bool} {n : Int} {len i k : Nat} (H : HistTo c b d n len) (hk : k < len) (hik : i < k) (ht : c i 0 = c k 0) : ahdB (c i) (d i) (c k) = true :=
  ((twoB_iff _ _ _ _).1 ((H k hk).2 i hik)).2.2.2 ht

theorem ord_trans {c : Nat → Nat → Int} {b d : Nat → Bool} {n : Int} {len i k m : Nat} (H : HistTo c b d n len) (hk : k < len) (h1 : ahdB (c i) (d i) (c k) = true) (h2 : ahdB (c k) (d k) (c m) = true) : ahdB (c i) (d i) (c m) = true := by
  have h3 := (one_facts (H k hk).1).2.2.2
  unfold ahdB at h1 h2 ⊢
  simp only [Bool.and_eq_true, decide_eq_true_eq] at h1 h2 ⊢
  have := h3 h2.1
  exact ⟨h1.1, by omega⟩

set_option maxRecDepth 100000 in
set_option maxHeartbeats 8000000 in
theorem historyOrders_walk (A : Option Addr) (len cap : Nat) (w : World) (hr : RowOk w 5 [.int .i64, .int .i64, .int .i64, .int .i64, .int .i64, .int .i64, .int .i64, .int .i64, .int .i64, .int .i64, .bool, .int .i64, .int .i64, .int .i64, .bool] A len cap) :
    Calls Try.prog 4 #[.slice A len cap] w fun e w' => e = .returned (.bool true) ∧ Below w.heap.size w w' := by
  have hm := hr.1
  have hm2 := hr.2.1
  unfold maxLen at hm2
  obtain ⟨c, b, d, H, HW⟩ := CallOk.of_row hr
  clear hr
  by_cases hl : 40 < len
  · clear HW H
    go_enter Try.func4, Try.ntmps4
    go_wp2_with (go_at_call 7; refine (works10_any _).mono ?_; rintro e ww ⟨rfl, hww⟩; obtain ⟨hcww, hfww⟩ := bcell hww; (try (simp only [World.size_drew, World.cell?_drew, World.frozen?_drew] at hcww hfww)); have hzww := hww.size; (try (simp only [World.size_alloc, World.size_setCell, World.size_drew] at hzww)); (try (have hzww_w_0 : w.heap.size < ww.heap.size := by omega)); (try (have hzww_w_1 : w.heap.size + 1 < ww.heap.size := by omega)); (try (have hzww_w_2 : w.heap.size + 1 + 1 < ww.heap.size := by omega)); (try (have hzww_w_3 : w.heap.size + 1 + 1 + 1 < ww.heap.size := by omega)); (try (have hyww_w : w.heap.size ≤ ww.heap.size := by omega)); (try (have hyww_wa : w.heap.size + 1 ≤ ww.heap.size := by omega)))
    go_ret
    exact ⟨rfl, by repeat (first | exact Below.refl _ _ | assumption | refine Below.alloc ?_ (by first | (simp; done) | (simp; omega) | omega) _ | refine Below.setCell ?_ (by first | (simp; done) | (simp; omega) | omega) _ | apply Below.drew | refine Below.trans ?_ (Below.mono (by assumption) (by first | (simp; done) | (simp; omega) | omega)))⟩
  have hl2 : len ≤ 40 := by omega
  have hck := hide (chk10_any A len cap c b d 8 w H HW)
  by_cases hz : chkI c b d 8 len = 0
  · have HZ := hide (hist_zero hz)
    rw [hz] at hck
    have hmo := hide (fun W (hb : Below w.heap.size w W) => most10_any A len cap c b d (by omega) W (H.keep hb))
    have hmle := most_le (hist_zero hz) len
    generalize mostI c d len len = M at hmo hmle
    have HH := hide H
    clear H HW hz
    go_enter Try.func4, Try.ntmps4
    go_wp2_with fail
    refine (unhide hck).mono ?_
    rintro e w1 ⟨rfl, hb1⟩
    have B1 := hide hb1
    clear hb1 hck
    go_wp2_with (go_at_call 8; refine (num10_any _ _).mono ?_; rintro e w' ⟨rfl, rfl⟩)
    go_loopw [3] (fun i wr => ∃ p : Nat, p ≤ len ∧ i = .int .i64 p ∧ Below w.heap.size w wr) (fun i _ => len - (intOf i).toNat)
    case atStart => exact ⟨0, Nat.zero_le _, rfl, unhide B1⟩
    case round =>
      clear B1
      obtain ⟨p, hp, rfl, hB⟩ := hrel
      by_cases hlp : p < len
      · obtain ⟨g, o, rfl, hg, hc⟩ := unhide HH (by omega)
        have HC : Hid (∀ i, i < len → CAt w g (o + i * 15) (c i) (b i) (d i)) := hide (fun i hi => hc i hi)
        have HP := hide (unhide HC p hlp)
        have bp1 : (0 : Int) ≤ (p : Int) := by omega
        have bp2 : (p : Int) < (len : Int) := by omega
        clear hc HH hmo
        go_wp2_with fail
        go_loopw [4] (fun i wr => ∃ q : Nat, q ≤ len ∧ i = .int .i64 q ∧ Below w.heap.size w wr) (fun i _ => len - (intOf i).toNat)
        case atStart => exact ⟨0, Nat.zero_le _, rfl, hB⟩
        case round =>
          clear hB
          obtain ⟨q, hq, rfl, hB⟩ := hrel
          by_cases hlq : q < len
          · have HQ := hide (unhide HC q hlq)
            have bq1 : (0 : Int) ≤ (q : Int) := by omega
            have bq2 : (q : Int) < (len : Int) := by omega
            have hC1 := fun W => ahead_any (c p) (b p) (d p) (c q) (b q) (d q) W
            have hC2 := fun W => ahead_any (c q) (b q) (d q) (c p) (b p) (d p) W
            have hno := hide (ord_no (unhide HZ) hlp hlq)
            have hth := hide (fun h1 h2 => ord_thread (unhide HZ) hlq (i := p) h1 h2)
            go_upto_region 9 with fail
            refine wp_region_later w (by kernel_rfl) (by kernel_rfl) (by repeat (first | exact Below.refl _ _ | assumption | refine Below.alloc ?_ (by first | (simp; done) | (simp; omega) | omega) _ | refine Below.setCell ?_ (by first | (simp; done) | (simp; omega) | omega) _ | apply Below.drew | refine Below.trans ?_ (Below.mono (by assumption) (by first | (simp; done) | (simp; omega) | omega)))) ?_; (repeat (first | go_big_quiet_skip | (go_big_quiet_want; (first | ((first | (with_reducible refine quiet_loadC _ rfl _ _ rfl _ _ _ (later_cat hg (unhide HP)) ?_) | (with_reducible refine quiet_loadC _ rfl _ _ rfl _ _ _ (later_cat hg (unhide HQ)) ?_)); go_big_quiet_on; simp only [Act.put, List.setIfInBounds_toArray, List.set_cons_zero, List.set_cons_succ]) | (go_big_quiet_op; (first | go_big_quiet_on | go_big_quiet_call ((first | (go_at_call 11; first | with_reducible exact later_call (hC1 _) | with_reducible exact later_call (hC2 _)))))))))); refine wpQuiet_nil ?_
            intro w2 hB2
            clear hC1 hC2 hB
            have hB := hB2
            clear hB2
            go_upto_region 10 with fail
            go_cut [5, 6, 38, 47, 73] (fun s5 s6 s38 s47 s wx => s5 = .bool (ahdB (c p) (d p) (c q)) ∧ s = .bool false ∧ Below w.heap.size w wx)
            case first =>
              have y0 : ∀ s : Later w, s.val.cell? ⟨g, o + p * 15, none⟩ = some (.int .i64 (c p 0)) := Later.cell hg (unhide HP).1
              have z0 : ∀ s : Later w, s.val.cell? ⟨g, o + q * 15, none⟩ = some (.int .i64 (c q 0)) := Later.cell hg (unhide HQ).1
              cases ea : ahdB (c p) (d p) (c q) with
              | true =>
                have eb := unhide hno ea
                rw [eb]
                have EA := hide ea
                clear ea eb
                by_cases hpq : p < q
                · have i1 : (p : Int) < (q : Int) := by omega
                  by_cases ht : c p 0 = c q 0
                  · have i2 : (c p 0 == c q 0) = true := by simpa using ht
                    clear ht
                    refine wp_region_later w (by kernel_rfl) (by kernel_rfl) (by repeat (first | exact Below.refl _ _ | assumption | refine Below.alloc ?_ (by first | (simp; done) | (simp; omega) | omega) _ | refine Below.setCell ?_ (by first | (simp; done) | (simp; omega) | omega) _ | apply Below.drew | refine Below.trans ?_ (Below.mono (by assumption) (by first | (simp; done) | (simp; omega) | omega)))) ?_; (repeat (first | go_big_quiet_skip | (go_big_quiet_want; (first | ((fail); go_big_quiet_on; simp only [Act.put, List.setIfInBounds_toArray, List.set_cons_zero, List.set_cons_succ]) | (go_big_quiet_op; (first | go_big_quiet_on | go_big_quiet_call ((fail)))))))); refine wpQuiet_nil ?_
                    intro w3 hB3
                    go_wp2_with fail
                    go_meet
                    exact ⟨by first | rfl | (rw [unhide EA]), rfl, hB3⟩
                  · have i2 : (c p 0 == c q 0) = false := by simpa using ht
                    clear ht
                    refine wp_region_later w (by kernel_rfl) (by kernel_rfl) (by repeat (first | exact Below.refl _ _ | assumption | refine Below.alloc ?_ (by first | (simp; done) | (simp; omega) | omega) _ | refine Below.setCell ?_ (by first | (simp; done) | (simp; omega) | omega) _ | apply Below.drew | refine Below.trans ?_ (Below.mono (by assumption) (by first | (simp; done) | (simp; omega) | omega)))) ?_; (repeat (first | go_big_quiet_skip | (go_big_quiet_want; (first | ((fail); go_big_quiet_on; simp only [Act.put, List.setIfInBounds_toArray, List.set_cons_zero, List.set_cons_succ]) | (go_big_quiet_op; (first | go_big_quiet_on | go_big_quiet_call ((fail)))))))); refine wpQuiet_nil ?_
                    intro w3 hB3
                    go_wp2_with fail
                    go_meet
                    exact ⟨by first | rfl | (rw [unhide EA]), rfl, hB3⟩
                · have i1 : ¬ (p : Int) < (q : Int) := by omega
                  refine wp_region_later w (by kernel_rfl) (by kernel_rfl) (by repeat (first | exact Below.refl _ _ | assumption | refine Below.alloc ?_ (by first | (simp; done) | (simp; omega) | omega) _ | refine Below.setCell ?_ (by first | (simp; done) | (simp; omega) | omega) _ | apply Below.drew | refine Below.trans ?_ (Below.mono (by assumption) (by first | (simp; done) | (simp; omega) | omega)))) ?_; (repeat (first | go_big_quiet_skip | (go_big_quiet_want; (first | ((fail); go_big_quiet_on; simp only [Act.put, List.setIfInBounds_toArray, List.set_cons_zero, List.set_cons_succ]) | (go_big_quiet_op; (first | go_big_quiet_on | go_big_quiet_call ((fail)))))))); refine wpQuiet_nil ?_
                  intro w3 hB3
                  go_wp2_with fail
                  go_meet
                  exact ⟨by first | rfl | (rw [unhide EA]), rfl, hB3⟩
              | false =>
                have EA := hide ea
                by_cases hpq : p < q
                · have i1 : (p : Int) < (q : Int) := by omega
                  have ht : ¬ c p 0 = c q 0 := fun e => by have := unhide hth hpq e; rw [ea] at this; cases this
                  have i2 : (c p 0 == c q 0) = false := by simpa using ht
                  clear ht ea
                  refine wp_region_later w (by kernel_rfl) (by kernel_rfl) (by repeat (first | exact Below.refl _ _ | assumption | refine Below.alloc ?_ (by first | (simp; done) | (simp; omega) | omega) _ | refine Below.setCell ?_ (by first | (simp; done) | (simp; omega) | omega) _ | apply Below.drew | refine Below.trans ?_ (Below.mono (by assumption) (by first | (simp; done) | (simp; omega) | omega)))) ?_; (repeat (first | go_big_quiet_skip | (go_big_quiet_want; (first | ((fail); go_big_quiet_on; simp only [Act.put, List.setIfInBounds_toArray, List.set_cons_zero, List.set_cons_succ]) | (go_big_quiet_op; (first | go_big_quiet_on | go_big_quiet_call ((fail)))))))); refine wpQuiet_nil ?_
                  intro w3 hB3
                  go_wp2_with fail
                  go_meet
                  exact ⟨by first | rfl | (rw [unhide EA]), rfl, hB3⟩
                · have i1 : ¬ (p : Int) < (q : Int) := by omega
                  clear ea
                  refine wp_region_later w (by kernel_rfl) (by kernel_rfl) (by repeat (first | exact Below.refl _ _ | assumption | refine Below.alloc ?_ (by first | (simp; done) | (simp; omega) | omega) _ | refine Below.setCell ?_ (by first | (simp; done) | (simp; omega) | omega) _ | apply Below.drew | refine Below.trans ?_ (Below.mono (by assumption) (by first | (simp; done) | (simp; omega) | omega)))) ?_; (repeat (first | go_big_quiet_skip | (go_big_quiet_want; (first | ((fail); go_big_quiet_on; simp only [Act.put, List.setIfInBounds_toArray, List.set_cons_zero, List.set_cons_succ]) | (go_big_quiet_op; (first | go_big_quiet_on | go_big_quiet_call ((fail)))))))); refine wpQuiet_nil ?_
                  intro w3 hB3
                  go_wp2_with fail
                  go_meet
                  exact ⟨by first | rfl | (rw [unhide EA]), rfl, hB3⟩
            case rest =>
              obtain ⟨rfl, rfl, hB3⟩ := hcut
              clear hB hno hth
              go_wp2_with fail
              go_loopw [7] (fun i wr => ∃ r : Nat, r ≤ len ∧ i = .int .i64 r ∧ Below w.heap.size w wr) (fun i _ => len - (intOf i).toNat)
              case atStart => exact ⟨0, Nat.zero_le _, rfl, hB3⟩
              case round =>
                clear hB3
                obtain ⟨r, hr, rfl, hB⟩ := hrel
                by_cases hlr : r < len
                · have HR := hide (unhide HC r hlr)
                  have br1 : (0 : Int) ≤ (r : Int) := by omega
                  have br2 : (r : Int) < (len : Int) := by omega
                  have htr := hide (ord_trans (unhide HZ) hlq (i := p) (m := r))
                  have hC1 := fun W => ahead_any (c q) (b q) (d q) (c r) (b r) (d r) W
                  have hC2 := fun W => ahead_any (c p) (b p) (d p) (c r) (b r) (d r) W
                  go_upto_region 15 with fail
                  go_cut [5, 103] (fun s5 s wx => s5 = .bool (ahdB (c p) (d p) (c q)) ∧ s = .bool false ∧ Below w.heap.size w wx)
                  case first =>
                    cases ea : ahdB (c p) (d p) (c q) with
                    | true =>
                      have EA := hide ea
                      cases eb : ahdB (c q) (d q) (c r) with
                      | true =>
                        rw [unhide htr ea eb] at hC2
                        rw [eb] at hC1
                        clear ea eb
                        refine wp_region_later w (by kernel_rfl) (by kernel_rfl) (by repeat (first | exact Below.refl _ _ | assumption | refine Below.alloc ?_ (by first | (simp; done) | (simp; omega) | omega) _ | refine Below.setCell ?_ (by first | (simp; done) | (simp; omega) | omega) _ | apply Below.drew | refine Below.trans ?_ (Below.mono (by assumption) (by first | (simp; done) | (simp; omega) | omega)))) ?_; (repeat (first | go_big_quiet_skip | (go_big_quiet_want; (first | ((first | (with_reducible refine quiet_loadC _ rfl _ _ rfl _ _ _ (later_cat hg (unhide HP)) ?_) | (with_reducible refine quiet_loadC _ rfl _ _ rfl _ _ _ (later_cat hg (unhide HQ)) ?_) | (with_reducible refine quiet_loadC _ rfl _ _ rfl _ _ _ (later_cat hg (unhide HR)) ?_)); go_big_quiet_on; simp only [Act.put, List.setIfInBounds_toArray, List.set_cons_zero, List.set_cons_succ]) | (go_big_quiet_op; (first | go_big_quiet_on | go_big_quiet_call ((first | (go_at_call 11; first | with_reducible exact later_call (hC1 _) | with_reducible exact later_call (hC2 _)))))))))); refine wpQuiet_nil ?_
                        intro w3 hB3
                        go_wp2_with fail
                        go_meet
                        exact ⟨by first | rfl | (rw [unhide EA]), rfl, hB3⟩
                      | false =>
                        rw [eb] at hC1
                        clear ea eb
                        refine wp_region_later w (by kernel_rfl) (by kernel_rfl) (by repeat (first | exact Below.refl _ _ | assumption | refine Below.alloc ?_ (by first | (simp; done) | (simp; omega) | omega) _ | refine Below.setCell ?_ (by first | (simp; done) | (simp; omega) | omega) _ | apply Below.drew | refine Below.trans ?_ (Below.mono (by assumption) (by first | (simp; done) | (simp; omega) | omega)))) ?_; (repeat (first | go_big_quiet_skip | (go_big_quiet_want; (first | ((first | (with_reducible refine quiet_loadC _ rfl _ _ rfl _ _ _ (later_cat hg (unhide HP)) ?_) | (with_reducible refine quiet_loadC _ rfl _ _ rfl _ _ _ (later_cat hg (unhide HQ)) ?_) | (with_reducible refine quiet_loadC _ rfl _ _ rfl _ _ _ (later_cat hg (unhide HR)) ?_)); go_big_quiet_on; simp only [Act.put, List.setIfInBounds_toArray, List.set_cons_zero, List.set_cons_succ]) | (go_big_quiet_op; (first | go_big_quiet_on | go_big_quiet_call ((first | (go_at_call 11; first | with_reducible exact later_call (hC1 _) | with_reducible exact later_call (hC2 _)))))))))); refine wpQuiet_nil ?_
                        intro w3 hB3
                        go_wp2_with fail
                        go_meet
                        exact ⟨by first | rfl | (rw [unhide EA]), rfl, hB3⟩
                    | false =>
                      have EA := hide ea
                      clear ea
                      refine wp_region_later w (by kernel_rfl) (by kernel_rfl) (by repeat (first | exact Below.refl _ _ | assumption | refine Below.alloc ?_ (by first | (simp; done) | (simp; omega) | omega) _ | refine Below.setCell ?_ (by first | (simp; done) | (simp; omega) | omega) _ | apply Below.drew | refine Below.trans ?_ (Below.mono (by assumption) (by first | (simp; done) | (simp; omega) | omega)))) ?_; (repeat (first | go_big_quiet_skip | (go_big_quiet_want; (first | ((fail); go_big_quiet_on; simp only [Act.put, List.setIfInBounds_toArray, List.set_cons_zero, List.set_cons_succ]) | (go_big_quiet_op; (first | go_big_quiet_on | go_big_quiet_call ((fail)))))))); refine wpQuiet_nil ?_
                      intro w3 hB3
                      go_wp2_with fail
                      go_meet
                      exact ⟨by first | rfl | (rw [unhide EA]), rfl, hB3⟩
                  case rest =>
                    obtain ⟨rfl, rfl, hB3⟩ := hcut
                    clear hB hC1 hC2 htr
                    go_wp2
                    go_roundw
                    case measure => simp [intOf]; omega
                    case rel => exact ⟨r + 1, by omega, by go_num, hB3⟩
                · go_wp2
                  go_roundw
                  case measure => simp [intOf]; omega
                  case rel => exact ⟨q + 1, by omega, by go_num, hB⟩
          · go_wp2
            go_roundw
            case measure => simp [intOf]; omega
            case rel => exact ⟨p + 1, by omega, by go_num, hB⟩
      · have B0 := hide hB
        clear hB HH
        go_wp2_with fail
        refine (unhide hmo _ (unhide B0)).mono ?_
        rintro e w2 ⟨rfl, hb2⟩
        have B2 := hide ((unhide B0).trans (hb2.mono (unhide B0).size))
        clear hb2 B0 hmo
        go_wp2_with (go_at_call 7; refine (works10_any _).mono ?_; rintro e ww ⟨rfl, hww⟩; obtain ⟨hcww, hfww⟩ := bcell hww; (try (simp only [World.size_drew, World.cell?_drew, World.frozen?_drew] at hcww hfww)); have hzww := hww.size; (try (simp only [World.size_alloc, World.size_setCell, World.size_drew] at hzww)); (try (have hzww_w_0 : w.heap.size < ww.heap.size := by omega)); (try (have hzww_w_1 : w.heap.size + 1 < ww.heap.size := by omega)); (try (have hzww_w_2 : w.heap.size + 1 + 1 < ww.heap.size := by omega)); (try (have hzww_w_3 : w.heap.size + 1 + 1 + 1 < ww.heap.size := by omega)); (try (have hyww_w : w.heap.size ≤ ww.heap.size := by omega)); (try (have hyww_wa : w.heap.size + 1 ≤ ww.heap.size := by omega)))
        all_goals
          go_ret
          refine ⟨rfl, ?_⟩
          have := unhide B2
          have hsb := this.size
          repeat (first | exact Below.refl _ _ | assumption | refine Below.alloc ?_ (by first | (simp; done) | (simp; omega) | omega) _ | refine Below.setCell ?_ (by first | (simp; done) | (simp; omega) | omega) _ | apply Below.drew | refine Below.trans ?_ (Below.mono (by assumption) (by first | (simp; done) | (simp; omega) | omega)))
  · have hzb : (chkI c b d 8 len != 0) = true := by simpa using hz
    generalize chkI c b d 8 len = R at hck hzb
    clear hz H HW
    go_enter Try.func4, Try.ntmps4
    go_wp2_with fail
    refine (unhide hck).mono ?_
    rintro e w1 ⟨rfl, hb1⟩
    have B1 := hide hb1
    clear hb1 hck
    go_wp2_with first | (go_at_call 8; refine (num10_any _ _).mono ?_; rintro e w' ⟨rfl, rfl⟩) | (go_at_call 7; refine (works10_any _).mono ?_; rintro e ww ⟨rfl, hww⟩; obtain ⟨hcww, hfww⟩ := bcell hww; (try (simp only [World.size_drew, World.cell?_drew, World.frozen?_drew] at hcww hfww)); have hzww := hww.size; (try (simp only [World.size_alloc, World.size_setCell, World.size_drew] at hzww)); (try (have hzww_w_0 : w.heap.size < ww.heap.size := by omega)); (try (have hzww_w_1 : w.heap.size + 1 < ww.heap.size := by omega)); (try (have hzww_w_2 : w.heap.size + 1 + 1 < ww.heap.size := by omega)); (try (have hzww_w_3 : w.heap.size + 1 + 1 + 1 < ww.heap.size := by omega)); (try (have hyww_w : w.heap.size ≤ ww.heap.size := by omega)); (try (have hyww_wa : w.heap.size + 1 ≤ ww.heap.size := by omega)))
    all_goals
      go_ret
      refine ⟨rfl, ?_⟩
      have := unhide B1
      have hsb := this.size
      repeat (first | exact Below.refl _ _ | assumption | refine Below.alloc ?_ (by first | (simp; done) | (simp; omega) | omega) _ | refine Below.setCell ?_ (by first | (simp; done) | (simp; omega) | omega) _ | apply Below.drew | refine Below.trans ?_ (Below.mono (by assumption) (by first | (simp; done) | (simp; omega) | omega)))
end Go.Proofs.Ytahfoogcdgjimaa
