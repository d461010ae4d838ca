/- The walk of ClaimCopies: it returns true. -/
import Derived.Test.YtnnllhlcpmmcaaaClU
import Derived.Deep.DeepCutAuto
namespace Go.Proofs.Ytnnllhlcpmmcaaa
set_option linter.unusedVariables false
set_option linter.unusedSimpArgs false
open Go.RowKit

/-- A machine behind answers. -/
noncomputable def itM (q : Ask) (M : Mc) (z : Nat → Int) : Nat → Mc
  | 0 => M
  | k + 1 => (nextM q (itM q M z k) (z k)).M

theorem itM_ok (q : Ask) (M : Mc) (z : Nat → Int) (h : M.ok) : ∀ k, (itM q M z k).ok
  | 0 => h
  | k + 1 => nextM_ok q _ _ (itM_ok q M z h k)

theorem newM_w (t sp : Int) (A : Option Addr) (len cap : Nat) (S : Nat → ByteArray) (hlen : len ≤ 9223372036854775807) (hS : ∀ i, i < len → (S i).size ≤ 9223372036854775807) (s n mo : Int) (w : World) (H : ShOk w A len S) :
    Calls Try.prog 11 #[.agg #[.int .i64 t, .int .i64 sp, .slice A len cap], .int .i64 s, .int .i64 n, .int .i64 mo] w
      fun e w' => ∃ pv ev, e = .returned (.tuple #[.pointer pv, .int .i64 ev]) ∧ Below w.heap.size w w' := by
  by_cases h : basE t sp s len S = 0 ∧ asN n mo = true
  · refine (newM_ok t sp A len cap S hlen hS s n mo w H h.1 h.2).mono ?_
    rintro e w' ⟨m, _, rfl, _, hb⟩
    exact ⟨_, _, rfl, hb⟩
  · refine (newM_no t sp A len cap S hlen hS s n mo w H ?_).mono ?_
    · by_cases h1 : basE t sp s len S = 0
      · right
        rw [Bool.eq_false_iff]
        exact fun h2 => h ⟨h1, h2⟩
      · exact .inl h1
    · rintro e w' ⟨rfl, hb⟩
      exact ⟨_, _, rfl, hb⟩

set_option maxRecDepth 100000 in
set_option maxHeartbeats 8000000 in
theorem claimCopies_walk (t : Int) (_ : (Lit.int .i64 t).wf = true) (sp : Int) (_ : (Lit.int .i64 sp).wf = true) (A : Option Addr) (len cap : Nat) (s : Int) (_ : (Lit.int .i64 s).wf = true) (n : Int) (_ : (Lit.int .i64 n).wf = true) (mo : Int) (_ : (Lit.int .i64 mo).wf = true) (A2 : Option Addr) (len2 cap2 : Nat) (A3 : Option Addr) (len3 cap3 : Nat) (w : World) (hr : RowOk w 5 [.str] A len cap) (hr2 : RowOk w 5 [.int .u64] A2 len2 cap2) (hr3 : RowOk w 5 [.int .u64] A3 len3 cap3) :
    Calls Try.prog 6 #[.agg #[.int .i64 t, .int .i64 sp, .slice A len cap], .agg #[.int .i64 s, .int .i64 n, .int .i64 mo], .slice A2 len2 cap2, .slice A3 len3 cap3] w fun e w' => e = .returned (.bool true) ∧ Below w.heap.size w w' := by
  have hm := hr.1
  have hm2 := hr.2.1
  have hm3 := hr2.1
  have hm4 := hr2.2.1
  have hm5 := hr3.1
  have hm6 := hr3.2.1
  unfold maxLen at hm2 hm4 hm6
  obtain ⟨S, H, hS⟩ := ShOk.of_row hr
  obtain ⟨b2, o2, z, hA2, hc2⟩ := hr2.ints
  obtain ⟨b3, o3, y, hA3, hc3⟩ := hr3.ints
  have hSm : ∀ i, i < len → (S i).size ≤ 9223372036854775807 := fun i hi => by have := hS i hi; unfold maxLen at this; exact this
  have cf := hide (fun W (hW : Below w.heap.size w W) => few14_any t sp A len cap S (by omega) W (H.keep hW) hS)
  have CW := hide (fun W (hW : Below w.heap.size w W) => newM_w t sp A len cap S (by omega) hSm s n mo W (H.keep hW))
  clear hr hr2 hr3
  cases ef : fewB len S with
  | false =>
    rw [ef] at cf
    clear ef H hS hA2 hc2 hA3 hc3 hSm
    go_enter Try.func6, Try.ntmps6
    go_wp2_with fail
    refine (unhide CW _ (by repeat (first | exact Below.refl _ _ | assumption | refine Below.alloc ?_ (by first | (simp; done) | (simp; omega) | omega) _ | refine Below.setCell ?_ (by first | (simp; done) | (simp; omega) | omega) _ | apply Below.drew | refine Below.trans ?_ (Below.mono (by assumption) (by first | (simp; done) | (simp; omega) | omega))))).mono ?_
    rintro en w1 ⟨pv, ev, rfl, hw1⟩
    obtain ⟨hcw1, hfw1⟩ := bcell hw1
    have hz1 := hw1.size
    simp only [World.size_alloc] at hz1
    have B1 : Below w.heap.size w w1 := by repeat (first | exact Below.refl _ _ | assumption | refine Below.alloc ?_ (by first | (simp; done) | (simp; omega) | omega) _ | refine Below.setCell ?_ (by first | (simp; done) | (simp; omega) | omega) _ | apply Below.drew | refine Below.trans ?_ (Below.mono (by assumption) (by first | (simp; done) | (simp; omega) | omega)))
    go_wp2_with fail
    refine (unhide cf _ B1).mono ?_
    rintro en w2 ⟨rfl, h2⟩
    have B2 := B1.trans (h2.mono B1.size)
    go_wp2_with fail
    refine (works14_any _).mono ?_
    rintro en w3 ⟨rfl, h3⟩
    have B3 := B2.trans (h3.mono B2.size)
    go_wp2
    go_ret
    exact ⟨rfl, B3⟩
  | true =>
    rw [ef] at cf
    by_cases h6 : 6 < len2
    · clear ef H hS hA2 hc2 hA3 hc3 hSm
      go_enter Try.func6, Try.ntmps6
      go_wp2_with fail
      refine (unhide CW _ (by repeat (first | exact Below.refl _ _ | assumption | refine Below.alloc ?_ (by first | (simp; done) | (simp; omega) | omega) _ | refine Below.setCell ?_ (by first | (simp; done) | (simp; omega) | omega) _ | apply Below.drew | refine Below.trans ?_ (Below.mono (by assumption) (by first | (simp; done) | (simp; omega) | omega))))).mono ?_
      rintro en w1 ⟨pv, ev, rfl, hw1⟩
      obtain ⟨hcw1, hfw1⟩ := bcell hw1
      have hz1 := hw1.size
      simp only [World.size_alloc] at hz1
      have B1 : Below w.heap.size w w1 := by repeat (first | exact Below.refl _ _ | assumption | refine Below.alloc ?_ (by first | (simp; done) | (simp; omega) | omega) _ | refine Below.setCell ?_ (by first | (simp; done) | (simp; omega) | omega) _ | apply Below.drew | refine Below.trans ?_ (Below.mono (by assumption) (by first | (simp; done) | (simp; omega) | omega)))
      go_wp2_with fail
      refine (unhide cf _ B1).mono ?_
      rintro en w2 ⟨rfl, h2⟩
      have B2 := B1.trans (h2.mono B1.size)
      go_wp2_with fail
      refine (works14_any _).mono ?_
      rintro en w3 ⟨rfl, h3⟩
      have B3 := B2.trans (h3.mono B2.size)
      go_wp2
      go_ret
      exact ⟨rfl, B3⟩
    by_cases h7 : 6 < len3
    · clear ef H hS hA2 hc2 hA3 hc3 hSm
      go_enter Try.func6, Try.ntmps6
      go_wp2_with fail
      refine (unhide CW _ (by repeat (first | exact Below.refl _ _ | assumption | refine Below.alloc ?_ (by first | (simp; done) | (simp; omega) | omega) _ | refine Below.setCell ?_ (by first | (simp; done) | (simp; omega) | omega) _ | apply Below.drew | refine Below.trans ?_ (Below.mono (by assumption) (by first | (simp; done) | (simp; omega) | omega))))).mono ?_
      rintro en w1 ⟨pv, ev, rfl, hw1⟩
      obtain ⟨hcw1, hfw1⟩ := bcell hw1
      have hz1 := hw1.size
      simp only [World.size_alloc] at hz1
      have B1 : Below w.heap.size w w1 := by repeat (first | exact Below.refl _ _ | assumption | refine Below.alloc ?_ (by first | (simp; done) | (simp; omega) | omega) _ | refine Below.setCell ?_ (by first | (simp; done) | (simp; omega) | omega) _ | apply Below.drew | refine Below.trans ?_ (Below.mono (by assumption) (by first | (simp; done) | (simp; omega) | omega)))
      go_wp2_with fail
      refine (unhide cf _ B1).mono ?_
      rintro en w2 ⟨rfl, h2⟩
      have B2 := B1.trans (h2.mono B1.size)
      go_wp2_with fail
      refine (works14_any _).mono ?_
      rintro en w3 ⟨rfl, h3⟩
      have B3 := B2.trans (h3.mono B2.size)
      go_wp2
      go_ret
      exact ⟨rfl, B3⟩
    by_cases hok : basE t sp s len S = 0 ∧ asN n mo = true
    · obtain ⟨hb0, e3⟩ := hok
      have e12 : okPB t sp len S = true ∧ (s = 0 ∨ s = 1) := by
        unfold basE at hb0
        split at hb0
        · rename_i e
          split at hb0
          · rename_i e'
            exact ⟨e, e'⟩
          · exact absurd hb0 (by decide)
        · exact absurd hb0 (by decide)
      obtain ⟨e1, e2⟩ := e12
      have CN := hide (fun W (hW : Below w.heap.size w W) => newM_ok t sp A len cap S (by omega) hSm s n mo W (H.keep hW) hb0 e3)
      have HS := hide H
      have HA2 := hide hA2
      have HC2 := hide hc2
      have HA3 := hide hA3
      have HC3 := hide hc3
      have HH := hide hSm
      have hfar : ∀ m, w.heap.size ≤ m → Ask.far ⟨t, sp, A, len, cap, s, n, mo⟩ m := fun m hm b o e => by
        by_cases hl : 0 < len
        · obtain ⟨b', o', e', hlt, _⟩ := H hl
          have e4 : A = some ⟨b, o, none⟩ := e
          rw [e'] at e4
          injection e4 with e4
          injection e4 with e4 _ _
          omega
        · have h0 := (okPB_iff.1 e1).2.2.1
          omega
      have HF := hide hfar
      have CX := hide (fun (M : Mc) (x : Int) (m : Nat) W (hW : Below w.heap.size w W) (hI : IsM W m (M.c ⟨t, sp, A, len, cap, s, n, mo⟩)) (hM : M.ok) (hm : w.heap.size ≤ m) (h0 : 0 ≤ x) (h1 : x ≤ 18446744073709551615) => nextM_any ⟨t, sp, A, len, cap, s, n, mo⟩ M x m S (show len ≤ 9223372036854775807 by omega) hSm W ⟨H.keep hW, e1, e2, e3⟩ (hfar m hm) hI hM h0 h1)
      clear ef H hS hA2 hc2 hA3 hc3 hSm hb0 hfar CW
      go_enter Try.func6, Try.ntmps6
      go_wp2_with fail
      refine (unhide CN _ (by repeat (first | exact Below.refl _ _ | assumption | refine Below.alloc ?_ (by first | (simp; done) | (simp; omega) | omega) _ | refine Below.setCell ?_ (by first | (simp; done) | (simp; omega) | omega) _ | apply Below.drew | refine Below.trans ?_ (Below.mono (by assumption) (by first | (simp; done) | (simp; omega) | omega))))).mono ?_
      rintro en w1 ⟨m, hwm, rfl, hm1, hw1⟩
      obtain ⟨hcw1, hfw1⟩ := bcell hw1
      have hz1 := hw1.size
      simp only [World.size_alloc] at hz1 hwm
      have B1 : Below w.heap.size w w1 := by repeat (first | exact Below.refl _ _ | assumption | refine Below.alloc ?_ (by first | (simp; done) | (simp; omega) | omega) _ | refine Below.setCell ?_ (by first | (simp; done) | (simp; omega) | omega) _ | apply Below.drew | refine Below.trans ?_ (Below.mono (by assumption) (by first | (simp; done) | (simp; omega) | omega)))
      have HM1 := hide hm1
      go_wp2_with fail
      refine (unhide cf _ B1).mono ?_
      rintro en w2 ⟨rfl, hw2⟩
      have B2 := B1.trans (hw2.mono B1.size)
      have HM2 : Hid (IsM w2 m ((itM ⟨t, sp, A, len, cap, s, n, mo⟩ newMc z 0).c ⟨t, sp, A, len, cap, s, n, mo⟩)) := hide ((unhide HM1).keep hw2)
      have hwm' : w.heap.size ≤ m := by omega
      clear hcw1 hfw1 hw1 hw2 HM1 B1 hm1 CN cf hwm hz1
      have HB2 := hide B2
      clear B2
      go_wp2_with (go_at_call 13; refine (num14_any _ _).mono ?_; rintro e w' ⟨rfl, rfl⟩)
      go_loopw [11] (fun i wr => ∃ k : Nat, k ≤ len2 ∧ i = .int .i64 k ∧ Hid (IsM wr m ((itM ⟨t, sp, A, len, cap, s, n, mo⟩ newMc z k).c ⟨t, sp, A, len, cap, s, n, mo⟩)) ∧ Hid (Below w.heap.size w wr)) (fun i _ => len2 - (intOf i).toNat)
      case atStart => exact ⟨0, by omega, rfl, HM2, HB2⟩
      case round =>
        obtain ⟨k, hk, rfl, HM, HB⟩ := hrel
        clear HM2 HB2
        by_cases hlt : k < len2
        · obtain ⟨rfl, hb2⟩ := unhide HA2 (by omega)
          have a0 : wr.cell? ⟨b2, o2 + k, none⟩ = some (.int .u64 (z k)) := ((unhide HB).cell (p := ⟨b2, o2 + k, none⟩) hb2).trans (unhide HC2 k hlt).1
          have hy := wf_u64 (unhide HC2 k hlt).2
          have b0 : (0 : Int) ≤ (k : Int) := by omega
          have b1 : (k : Int) < (len2 : Int) := by omega
          have C := hide (unhide CX (itM ⟨t, sp, A, len, cap, s, n, mo⟩ newMc z k) (z k) m wr (unhide HB) (unhide HM) (itM_ok _ _ _ newMc_ok k) hwm' hy.1 hy.2)
          have hzr := (unhide HB).size
          clear hy
          go_wp2_with fail
          refine (unhide C).mono ?_
          unfold Nx.val
          rintro en w5 ⟨rfl, hg5, hI5⟩
          have HM5 : Hid (IsM w5 m ((itM ⟨t, sp, A, len, cap, s, n, mo⟩ newMc z (k + 1)).c ⟨t, sp, A, len, cap, s, n, mo⟩)) := hide hI5
          have HB5 := hide ((unhide HB).trans ((Chg.gr (S := fun i => i = m) hg5 rfl).below (n := w.heap.size) (fun i e => by subst e; exact hwm') hzr))
          clear a0 hg5 hI5 C HM HB
          go_wp2
          go_roundw
          case measure => simp [intOf]; omega
          case rel => exact ⟨k + 1, by omega, by go_num, HM5, HB5⟩
        · obtain rfl : k = len2 := by omega
          obtain ⟨M1, hM1⟩ : ∃ M1, itM ⟨t, sp, A, len, cap, s, n, mo⟩ newMc z k = M1 := ⟨_, rfl⟩
          have hM1ok := itM_ok ⟨t, sp, A, len, cap, s, n, mo⟩ newMc z newMc_ok k
          rw [hM1] at HM hM1ok
          have HOK := hide hM1ok
          clear hM1 hM1ok HA2 HC2
          go_wp2_with fail
          refine (copyM_any m _ _ _ _ _ _ _ _ _ _ _ _ _ _ _ _ _ wr (unhide HM)).mono ?_
          rintro en w3 ⟨mc, hmc, rfl, hIc, hw3⟩
          have HM3 := hide ((unhide HM).keep hw3)
          have HN3 : Hid (IsM w3 mc (M1.c ⟨t, sp, A, len, cap, s, n, mo⟩)) := hide hIc
          have HB3 := hide ((unhide HB).trans (hw3.mono (unhide HB).size))
          have hlc := hIc.1
          have hlm := (unhide HM).1
          have hzr := (unhide HB).size
          clear hw3 hIc HM HB
          go_wp2_with fail
          refine (copyM_any m _ _ _ _ _ _ _ _ _ _ _ _ _ _ _ _ _ w3 (unhide HM3)).mono ?_
          rintro en w4 ⟨md, hmd, rfl, hId, hw4⟩
          have HM4 : Hid (IsM w4 m ((itM ⟨t, sp, A, len, cap, s, n, mo⟩ M1 y 0).c ⟨t, sp, A, len, cap, s, n, mo⟩)) := hide ((unhide HM3).keep hw4)
          have HN4 := hide ((unhide HN3).keep hw4)
          have HD4 : Hid (IsM w4 md (M1.c ⟨t, sp, A, len, cap, s, n, mo⟩)) := hide hId
          have HB4 := hide ((unhide HB3).trans (hw4.mono (unhide HB3).size))
          have hne1 : ¬ mc = m := by omega
          have hne2 : ¬ md = m := by omega
          have hne3 : ¬ md = mc := by omega
          have hne4 : ¬ mc = md := by omega
          have hmcw : w.heap.size ≤ mc := by omega
          have hmdw : w.heap.size ≤ md := by omega
          clear hw4 hId HM3 HN3 HB3 hlc hlm hmc hmd hzr
          go_wp2
          go_loopw [14] (fun i wr => ∃ k : Nat, k ≤ len3 ∧ i = .int .i64 k ∧ Hid (IsM wr m ((itM ⟨t, sp, A, len, cap, s, n, mo⟩ M1 y k).c ⟨t, sp, A, len, cap, s, n, mo⟩)) ∧ Hid (IsM wr mc (M1.c ⟨t, sp, A, len, cap, s, n, mo⟩)) ∧ Hid (IsM wr md (M1.c ⟨t, sp, A, len, cap, s, n, mo⟩)) ∧ Hid (Below w.heap.size w wr)) (fun i _ => len3 - (intOf i).toNat)
          case atStart => exact ⟨0, by omega, rfl, HM4, HN4, HD4, HB4⟩
          case round =>
            obtain ⟨k, hk, rfl, HM, HN, HD, HB⟩ := hrel
            clear HM4 HN4 HD4 HB4
            by_cases hlt : k < len3
            · obtain ⟨rfl, hb3⟩ := unhide HA3 (by omega)
              have a0 : wr.cell? ⟨b3, o3 + k, none⟩ = some (.int .u64 (y k)) := ((unhide HB).cell (p := ⟨b3, o3 + k, none⟩) hb3).trans (unhide HC3 k hlt).1
              have hy := wf_u64 (unhide HC3 k hlt).2
              have b0 : (0 : Int) ≤ (k : Int) := by omega
              have b1 : (k : Int) < (len3 : Int) := by omega
              have C := hide (unhide CX (itM ⟨t, sp, A, len, cap, s, n, mo⟩ M1 y k) (y k) m wr (unhide HB) (unhide HM) (itM_ok _ _ _ (unhide HOK) k) hwm' hy.1 hy.2)
              have hzr := (unhide HB).size
              clear hy
              go_wp2_with fail
              refine (unhide C).mono ?_
              unfold Nx.val
              rintro en w5 ⟨rfl, hg5, hI5⟩
              have hCh : Chg (fun i => i = m) wr w5 := Chg.gr hg5 rfl
              have HM5 : Hid (IsM w5 m ((itM ⟨t, sp, A, len, cap, s, n, mo⟩ M1 y (k + 1)).c ⟨t, sp, A, len, cap, s, n, mo⟩)) := hide hI5
              have HN5 := hide ((unhide HN).chg hCh hne1)
              have HD5 := hide ((unhide HD).chg hCh hne2)
              have HB5 := hide ((unhide HB).trans (hCh.below (n := w.heap.size) (fun i e => by subst e; exact hwm') hzr))
              clear a0 hg5 hI5 C HM HB HN HD hCh
              go_wp2
              go_roundw
              case measure => simp [intOf]; omega
              case rel => exact ⟨k + 1, by omega, by go_num, HM5, HN5, HD5, HB5⟩
            · obtain rfl : k = len3 := by omega
              have HC : Hid (IsM wr mc ((itM ⟨t, sp, A, len, cap, s, n, mo⟩ M1 y 0).c ⟨t, sp, A, len, cap, s, n, mo⟩)) := HN
              have HE : Hid (IsM wr md ((itM ⟨t, sp, A, len, cap, s, n, mo⟩ M1 y 0).c ⟨t, sp, A, len, cap, s, n, mo⟩)) := HD
              clear HN HD
              go_wp2
              obtain ⟨wo, hwo⟩ : ∃ wo, wo = wr := ⟨_, rfl⟩
              subst hwo
              go_loopw [15] (fun i wx => ∃ j : Nat, j ≤ k ∧ i = .int .i64 j ∧ Hid (IsM wx m ((itM ⟨t, sp, A, len, cap, s, n, mo⟩ M1 y k).c ⟨t, sp, A, len, cap, s, n, mo⟩)) ∧ Hid (IsM wx mc ((itM ⟨t, sp, A, len, cap, s, n, mo⟩ M1 y j).c ⟨t, sp, A, len, cap, s, n, mo⟩)) ∧ Hid (IsM wx md ((itM ⟨t, sp, A, len, cap, s, n, mo⟩ M1 y j).c ⟨t, sp, A, len, cap, s, n, mo⟩)) ∧ Hid (Below w.heap.size w wx)) (fun i _ => k - (intOf i).toNat)
              case atStart => exact ⟨0, by omega, rfl, HM, HC, HE, HB⟩
              case round =>
                obtain ⟨j, hj, rfl, HM0, HC0, HE0, HB0⟩ := hrel
                clear HM HC HE HB
                by_cases hlt : j < k
                · obtain ⟨rfl, hb3⟩ := unhide HA3 (by omega)
                  have a0 : wr.cell? ⟨b3, o3 + j, none⟩ = some (.int .u64 (y j)) := ((unhide HB0).cell (p := ⟨b3, o3 + j, none⟩) hb3).trans (unhide HC3 j hlt).1
                  have hy := wf_u64 (unhide HC3 j hlt).2
                  have b0 : (0 : Int) ≤ (j : Int) := by omega
                  have b1 : (j : Int) < (k : Int) := by omega
                  have C := hide (unhide CX (itM ⟨t, sp, A, len, cap, s, n, mo⟩ M1 y j) (y j) mc wr (unhide HB0) (unhide HC0) (itM_ok _ _ _ (unhide HOK) j) hmcw hy.1 hy.2)
                  have C2 := hide (fun W hW hI => unhide CX (itM ⟨t, sp, A, len, cap, s, n, mo⟩ M1 y j) (y j) md W hW hI (itM_ok _ _ _ (unhide HOK) j) hmdw hy.1 hy.2)
                  have hstep : Hid (itM ⟨t, sp, A, len, cap, s, n, mo⟩ M1 y (j + 1) = (nextM ⟨t, sp, A, len, cap, s, n, mo⟩ (itM ⟨t, sp, A, len, cap, s, n, mo⟩ M1 y j) (y j)).M) := hide rfl
                  have hzr := (unhide HB0).size
                  have hlm := (unhide HM0).1
                  have hlc := (unhide HC0).1
                  have hld := (unhide HE0).1
                  unfold Nx.val at C C2
                  generalize nextM ⟨t, sp, A, len, cap, s, n, mo⟩ (itM ⟨t, sp, A, len, cap, s, n, mo⟩ M1 y j) (y j) = r at C C2 hstep
                  obtain ⟨rM, rk, ra, ro, rv, rb⟩ := r
                  dsimp only at C C2 hstep
                  clear hy
                  go_wp2_with fail
                  refine (unhide C).mono ?_
                  rintro en w5 ⟨rfl, hg5, hI5⟩
                  have hz5 := hg5.size
                  have hCh : Chg (fun i => i = mc) wr w5 := Chg.gr hg5 rfl
                  have HM5 := hide ((unhide HM0).chg hCh (fun e => hne1 e.symm))
                  have HC5 : Hid (IsM w5 mc ((itM ⟨t, sp, A, len, cap, s, n, mo⟩ M1 y (j + 1)).c ⟨t, sp, A, len, cap, s, n, mo⟩)) := hide (by rw [unhide hstep]; exact hI5)
                  have HE5 := hide ((unhide HE0).chg hCh hne3)
                  have HB5 := hide ((unhide HB0).trans (hCh.below (n := w.heap.size) (fun i e => by subst e; exact hmcw) hzr))
                  have a5 : w5.cell? ⟨b3, o3 + j, none⟩ = some (.int .u64 (y j)) := (hCh.cell (by omega) (by omega)).trans a0
                  have hb5 : b3 < w5.heap.size := by omega
                  clear a0 hg5 hI5 C HM0 HB0 HC0 HE0 hCh
                  have hBa : Below w5.heap.size w5 (w5.alloc (.cells #[.int .i64 rk, .int .i64 ra, .int .u64 ro, .int .u64 rv] 44)) := (Below.refl _ _).alloc (Nat.le_refl _) _
                  have HX6 := hide (Ac4.new w5 44 rk ra ro rv)
                  have HM6 := hide ((unhide HM5).keep hBa)
                  have HC6 := hide ((unhide HC5).keep hBa)
                  have HE6 := hide ((unhide HE5).keep hBa)
                  have HB6 := hide ((unhide HB5).trans (hBa.mono (unhide HB5).size))
                  clear hBa HM5 HC5 HE5 HB5
                  go_wp2_with fail
                  refine (unhide C2 _ (unhide HB6) (unhide HE6)).mono ?_
                  rintro en w7 ⟨rfl, hg7, hI7⟩
                  have hz7 := hg7.size
                  simp only [World.size_alloc] at hz7
                  have hCh : Chg (fun i => i = md) (w5.alloc (.cells #[.int .i64 rk, .int .i64 ra, .int .u64 ro, .int .u64 rv] 44)) w7 := Chg.gr hg7 rfl
                  have HM7 := hide ((unhide HM6).chg hCh (fun e => hne2 e.symm))
                  have HC7 := hide ((unhide HC6).chg hCh hne4)
                  have HE7 : Hid (IsM w7 md ((itM ⟨t, sp, A, len, cap, s, n, mo⟩ M1 y (j + 1)).c ⟨t, sp, A, len, cap, s, n, mo⟩)) := hide (by rw [unhide hstep]; exact hI7)
                  obtain ⟨hx, x0, x1, x2, x3⟩ := (unhide HX6).chg hCh (by omega)
                  have HB7 := hide ((unhide HB6).trans (hCh.below (n := w.heap.size) (fun i e => by subst e; exact hmdw) (unhide HB6).size))
                  have hBb : Below w7.heap.size w7 (w7.alloc (.cells #[.int .i64 rk, .int .i64 ra, .int .u64 ro, .int .u64 rv] 44)) := (Below.refl _ _).alloc (Nat.le_refl _) _
                  have HM8 := hide ((unhide HM7).keep hBb)
                  have HC8 := hide ((unhide HC7).keep hBb)
                  have HE8 := hide ((unhide HE7).keep hBb)
                  have HB8 := hide ((unhide HB7).trans (hBb.mono (unhide HB7).size))
                  clear a5 hg7 hI7 C2 HM6 HB6 HC6 HE6 hCh hBb HM7 HC7 HE7 HB7 HX6 hstep
                  go_wp2
                  go_roundw
                  case measure => simp [intOf]; omega
                  case rel => exact ⟨j + 1, by omega, by go_num, HM8, HC8, HE8, HB8⟩
                · obtain rfl : j = k := by omega
                  have hMk := itM_ok ⟨t, sp, A, len, cap, s, n, mo⟩ M1 y (unhide HOK) j
                  generalize itM ⟨t, sp, A, len, cap, s, n, mo⟩ M1 y j = Mk at HM0 HC0 HE0 hMk
                  have HMk := hide hMk
                  have hzr := (unhide HB0).size
                  clear hMk HE0 HA3 HC3
                  go_wp2_with fail
                  refine (outM_any ⟨t, sp, A, len, cap, s, n, mo⟩ Mk m _ (unhide HM0) (unhide HMk)).mono ?_
                  rintro en w5 ⟨rfl, hw5⟩
                  have HC5 := hide ((unhide HC0).keep hw5)
                  have HB5 := hide ((unhide HB0).trans (hw5.mono hzr))
                  have hBa : Below w5.heap.size w5 (w5.alloc (.cells #[.int .i64 Mk.oe, .int .i64 Mk.oa, .int .i64 Mk.og] 38)) := (Below.refl _ _).alloc (Nat.le_refl _) _
                  have HO6 := hide (Cl3.new w5 38 Mk.oe Mk.oa Mk.og)
                  have HC6 := hide ((unhide HC5).keep hBa)
                  have HB6 := hide ((unhide HB5).trans (hBa.mono (unhide HB5).size))
                  clear hBa HC5 HB5 HM0 HC0 HB0 hw5
                  go_wp2_with fail
                  refine (outM_any ⟨t, sp, A, len, cap, s, n, mo⟩ Mk mc _ (unhide HC6) (unhide HMk)).mono ?_
                  rintro en w7 ⟨rfl, hw7⟩
                  obtain ⟨hx, o0', o1', o2'⟩ := (unhide HO6).keep hw7
                  have HB7 := (unhide HB6).trans (hw7.mono (unhide HB6).size)
                  clear HO6 HC6 HB6 hw7
                  go_wp2_with fail
                  refine (works14_any _).mono ?_
                  rintro en w9 ⟨rfl, hw9⟩
                  have B9 : Below w.heap.size w w9 := by
                    refine Below.trans ?_ (hw9.mono (by have := HB7.size; simp; omega))
                    exact HB7.alloc HB7.size _
                  go_wp2
                  go_ret
                  exact ⟨rfl, B9⟩
    · have hno : basE t sp s len S ≠ 0 ∨ asN n mo = false := by
        by_cases h1 : basE t sp s len S = 0
        · right
          rw [Bool.eq_false_iff]
          exact fun h2 => hok ⟨h1, h2⟩
        · exact .inl h1
      have CN := hide (fun W (hW : Below w.heap.size w W) => newM_no t sp A len cap S (by omega) hSm s n mo W (H.keep hW) hno)
      clear ef H hS hA2 hc2 hA3 hc3 hSm hno hok CW
      go_enter Try.func6, Try.ntmps6
      go_wp2_with fail
      refine (unhide CN _ (by repeat (first | exact Below.refl _ _ | assumption | refine Below.alloc ?_ (by first | (simp; done) | (simp; omega) | omega) _ | refine Below.setCell ?_ (by first | (simp; done) | (simp; omega) | omega) _ | apply Below.drew | refine Below.trans ?_ (Below.mono (by assumption) (by first | (simp; done) | (simp; omega) | omega))))).mono ?_
      rintro en w1 ⟨rfl, hw1⟩
      obtain ⟨hcw1, hfw1⟩ := bcell hw1
      have hz1 := hw1.size
      simp only [World.size_alloc] at hz1
      have B1 : Below w.heap.size w w1 := by repeat (first | exact Below.refl _ _ | assumption | refine Below.alloc ?_ (by first | (simp; done) | (simp; omega) | omega) _ | refine Below.setCell ?_ (by first | (simp; done) | (simp; omega) | omega) _ | apply Below.drew | refine Below.trans ?_ (Below.mono (by assumption) (by first | (simp; done) | (simp; omega) | omega)))
      go_wp2_with fail
      refine (unhide cf _ B1).mono ?_
      rintro en w2 ⟨rfl, h2⟩
      have B2 := B1.trans (h2.mono B1.size)
      go_wp2_with (go_at_call 13; refine (num14_any _ _).mono ?_; rintro e w' ⟨rfl, rfl⟩)
      refine (works14_any _).mono ?_
      rintro en w3 ⟨rfl, h3⟩
      have B3 := B2.trans (h3.mono B2.size)
      go_wp2
      go_ret
      exact ⟨rfl, B3⟩
end Go.Proofs.Ytnnllhlcpmmcaaa
