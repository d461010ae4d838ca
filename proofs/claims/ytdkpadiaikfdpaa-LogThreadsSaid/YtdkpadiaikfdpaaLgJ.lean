/- The walks of package log: the words behind all, which steps change one. -/
import Derived.Test.YtdkpadiaikfdpaaLgE
import Derived.Test.YtdkpadiaikfdpaaLgF
import Derived.Test.YtdkpadiaikfdpaaLgI
import Derived.Test.YtdkpadiaikfdpaaArK
import Derived.Maps.AppendAt
import Derived.RangeFuncBox
namespace Go.Proofs.Ytdkpadiaikfdpaa
set_option linter.unusedVariables false
set_option linter.unusedSimpArgs false
open Go.RowKit Go.Shelf

attribute [local go_sem] Oper.semAt_some

set_option maxHeartbeats 1000000 in
theorem play_no (B : Option Addr) (m cap : Nat) (hm : m ≤ 9223372036854775807) (hn : ¬ (1 ≤ m ∧ m ≤ 16384)) (S F : Value) (w : World) :
    Calls Try.prog 30 #[.slice B m cap, S, F] w fun e w' => e = .returned (.tuple #[.agg #[.pointer none], .int .i64 2]) ∧ Below w.heap.size w w' := by
  have cof := hide (lgof_no B m cap hm hn (w.alloc (.cells #[.pointer none] 58)))
  clear hn
  go_enter Try.func30, Try.ntmps30
  go_wp2
  refine wp_scope_fwd 0 rfl ?_
  go_wp2_with fail
  refine (unhide cof).mono ?_
  rintro e w1 ⟨rfl, hb1⟩
  have q1 : w1.cell? ⟨w.heap.size, 0, none⟩ = some (.pointer none) := (hb1.cell (p := ⟨w.heap.size, 0, none⟩) (by simp)).trans (by go_simp)
  have q2 : w1.frozen? ⟨w.heap.size, 0, none⟩ = false := (hb1.frozen (p := ⟨w.heap.size, 0, none⟩) (by simp)).trans (by go_simp)
  have B1 : Below w.heap.size w w1 := ((Below.refl _ w).alloc (Nat.le_refl _) _).trans (hb1.mono (by simp))
  have hs1 := hb1.size
  simp only [World.size_alloc] at hs1
  have z0 : w.heap.size < w1.heap.size := by omega
  clear cof hb1
  go_wp2
  (go_step3; refine fwd_goto ?_; go_wp2)
  (first | rw [fwd_ret] | rw [Exit.noGoto_ret] | skip)
  refine bodyPost_ret (v := .tuple #[.agg #[.pointer none], .int .i64 2]) (by simp only [results, Try.results30]; go_simp) rfl ?_
  exact ⟨rfl, (B1.setCell (p := ⟨w.heap.size, 0, none⟩) (Nat.le_refl _) _).setCell (p := ⟨w.heap.size, 0, none⟩) (Nat.le_refl _) _⟩

/-- What Changes answers. -/
def ChangesTo (w' : World) (m : Nat) (z : Nat → Int) (st : Nat → Nat → Int) (len : Nat) (e : Ending) : Prop :=
  ((∀ i, i < len → okS m z st i = true) ∧ ∃ A c, e = .returned (.tuple #[.slice A (plc (chB m z st) len).length c, .int .i64 0]) ∧ RdL w' .i64 A (plc (chB m z st) len)) ∨
  ((∃ k, k < len ∧ okS m z st k = false) ∧ e = .returned (.tuple #[.slice none 0 0, .int .i64 220]))

set_option maxHeartbeats 2000000 in
theorem changes_yes (b o m cap : Nat) (z : Nat → Int) (hm1 : 1 ≤ m) (hm2 : m ≤ 16384) (A : Option Addr) (len cap2 : Nat) (st : Nat → Nat → Int) (hlen : len ≤ 1000) (w : World) (hb : b < w.heap.size)
    (hc : ∀ i, i < m → w.cell? ⟨b, o + i, none⟩ = some (.int .u64 (z i))) (hS : StOk w A len st) :
    Calls Try.prog 13 #[.slice (some ⟨b, o, none⟩) m cap, .slice A len cap2] w fun e w' => ChangesTo w' m z st len e ∧ Below w.heap.size w w' := by
  obtain ⟨W0, hW0⟩ : ∃ W, W = (w.alloc (.cells #[.slice A len cap2] 23)).alloc (.cells #[.slice none 0 0] 31) := ⟨_, rfl⟩
  have hB0 : Below w.heap.size w W0 := by rw [hW0]; repeat (first | exact Below.refl _ _ | assumption | refine Below.alloc ?_ (by first | (simp; done) | (simp; omega) | omega) _ | refine Below.setCell ?_ (by first | (simp; done) | (simp; omega) | omega) _ | apply Below.drew | refine Below.trans ?_ (Below.mono (by assumption) (by first | (simp; done) | (simp; omega) | omega)))
  have hs0 : W0.heap.size = w.heap.size + 2 := by rw [hW0]; simp
  have c1 : W0.cell? ⟨w.heap.size, 0, none⟩ = some (.slice A len cap2) := by rw [hW0]; go_simp
  have c2 : W0.cell? ⟨w.heap.size + 1, 0, none⟩ = some (.slice none 0 0) := by rw [hW0]; go_simp
  have c3 : W0.frozen? ⟨w.heap.size + 1, 0, none⟩ = false := by rw [hW0]; go_simp
  have cp := hide (play_chg w.heap.size (w.heap.size + 1) b o m cap z hm1 hm2 A len cap2 st hlen W0 (by omega) (fun i hi => (hB0.cell (p := ⟨b, o + i, none⟩) hb).trans (hc i hi)) (hS.keep hB0)
    (fun bs os h e => by
      obtain ⟨b', o', e', h4, _⟩ := hS h
      rw [e] at e'
      injection e' with e'
      injection e' with e1 _ _
      omega) (by omega) (by omega) c1 c2 c3)
  have HW0 := hide hW0
  clear hW0 hc hS
  go_enter Try.func13, Try.ntmps13
  go_wp2_with fail
  rw [← unhide HW0]
  refine (unhide cp).mono ?_
  rintro e w1 ⟨hP, hB⟩
  have hB1 : Below w.heap.size w w1 := hB0.trans (hB _ (by omega))
  have hs1 := hB1.size
  have hs2 := (hB _ (Nat.le_refl _)).size
  clear cp HW0 hB hB0 c1 c2 c3
  rcases hP with ⟨hok, ⟨p, rfl⟩, v, base, hv, ho⟩ | ⟨hbad, rfl⟩
  · have HOK := hide hok
    have hl := plc_len (chB m z st) len
    obtain ⟨A', c', rfl, hr⟩ := RdL.of_own ho
    have HR := hide hr
    clear hok hr ho
    have z1 : w.heap.size + 1 < w1.heap.size := by omega
    go_wp2
    go_ret2
    exact ⟨.inl ⟨unhide HOK, A', c', rfl, (unhide HR).keep (by repeat (first | exact Below.refl _ _ | assumption | refine Below.alloc ?_ (by first | (simp; done) | (simp; omega) | omega) _ | refine Below.setCell ?_ (by first | (simp; done) | (simp; omega) | omega) _ | apply Below.drew | refine Below.trans ?_ (Below.mono (by assumption) (by first | (simp; done) | (simp; omega) | omega))))⟩, by repeat (first | exact Below.refl _ _ | assumption | refine Below.alloc ?_ (by first | (simp; done) | (simp; omega) | omega) _ | refine Below.setCell ?_ (by first | (simp; done) | (simp; omega) | omega) _ | apply Below.drew | refine Below.trans ?_ (Below.mono (by assumption) (by first | (simp; done) | (simp; omega) | omega)))⟩
  · have HB := hide hbad
    clear hbad
    go_wp2
    go_ret2
    exact ⟨.inr ⟨unhide HB, rfl⟩, by repeat (first | exact Below.refl _ _ | assumption | refine Below.alloc ?_ (by first | (simp; done) | (simp; omega) | omega) _ | refine Below.setCell ?_ (by first | (simp; done) | (simp; omega) | omega) _ | apply Below.drew | refine Below.trans ?_ (Below.mono (by assumption) (by first | (simp; done) | (simp; omega) | omega)))⟩

set_option maxHeartbeats 2000000 in
theorem changes_no (B : Option Addr) (m cap : Nat) (hm : m ≤ 9223372036854775807) (hn : ¬ (1 ≤ m ∧ m ≤ 16384)) (A : Option Addr) (len cap2 : Nat) (w : World) :
    Calls Try.prog 13 #[.slice B m cap, .slice A len cap2] w fun e w' => e = .returned (.tuple #[.slice none 0 0, .int .i64 2]) ∧ Below w.heap.size w w' := by
  have cp := hide (fun F W => play_no B m cap hm hn (.slice A len cap2) F W)
  clear hn
  go_enter Try.func13, Try.ntmps13
  go_wp2_with fail
  refine (unhide cp _ _).mono ?_
  rintro e w1 ⟨rfl, hb1⟩
  have hs1 := hb1.size
  simp only [World.size_alloc] at hs1
  clear cp
  go_wp2
  go_ret2
  exact ⟨rfl, by repeat (first | exact Below.refl _ _ | assumption | refine Below.alloc ?_ (by first | (simp; done) | (simp; omega) | omega) _ | refine Below.setCell ?_ (by first | (simp; done) | (simp; omega) | omega) _ | apply Below.drew | refine Below.trans ?_ (Below.mono (by assumption) (by first | (simp; done) | (simp; omega) | omega)))⟩
end Go.Proofs.Ytdkpadiaikfdpaa
