/- The walk of ClaimApart: it returns true. -/
import Derived.Test.YtnnllhlcpmmcaaaClY
import Derived.Test.YtnnllhlcpmmcaaaArH
namespace Go.Proofs.Ytnnllhlcpmmcaaa
set_option linter.unusedVariables false
set_option linter.unusedSimpArgs false
open Go.RowKit

theorem far_ap {w : World} {t sp s n mo : Int} {A : Option Addr} {len cap : Nat} {S : Nat → ByteArray} (H : ShOk w A len S) (hl : 0 < len) : ∀ m, w.heap.size ≤ m → Ask.far ⟨t, sp, A, len, cap, s, n, mo⟩ m := fun m hm b o e => by
  obtain ⟨b', o', e', hlt, _⟩ := H hl
  have e4 : A = some ⟨b, o, none⟩ := e
  rw [e'] at e4
  injection e4 with e4
  injection e4 with e4 _ _
  omega

def apQ (t sp : Int) (A : Option Addr) (len cap : Nat) (y : Nat → Nat → Int) (j : Nat) : Ask := ⟨t, sp, A, len, cap, y j 0, y j 1, y j 2⟩

theorem info_mp : (Try.prog.info? 30).map (fun i => (i.zero, i.size, i.bytes)) = some (some (.pointer none), 1, 8) := by kernel_rfl
theorem info_i64 : (Try.prog.info? 3).map (fun i => (i.zero, i.size, i.bytes)) = some (some (.int .i64 0), 1, 8) := by kernel_rfl
theorem info_b1 : (Try.prog.info? 4).map (fun i => (i.zero, i.size, i.bytes)) = some (some (.bool false), 1, 1) := by kernel_rfl

theorem mcell {z : Value} {n i : Nat} (hi : i < n) : (madeCells #[z] n)[i]? = some z := by
  rw [← Array.getElem?_toList, toList_madeCells_one, List.getElem?_replicate, if_pos hi]

/-- The memory of the machines' play. -/
def ApW (W : World) (g h N : Nat) (ys : Nat → Int) (Av : Option Addr) (L : Nat) (ms : Nat → Nat) (qs : Nat → Ask) (Ms : Nat → Mc) (Bl Bb Bt : Nat) (la : Nat → Int) (be : Nat → Nat) (td : Nat → Bool) : Prop :=
  IsAr W g h N ys ∧ Mach W Av L ms qs Ms ∧ Cs W Bl L (fun j => .int .u64 (la j)) ∧ Cs W Bb L (fun j => .int .i64 (be j : Nat)) ∧ Cs W Bt L (fun j => .bool (td j))

theorem ApW.keep {w W : World} {g h N : Nat} {ys : Nat → Int} {Av : Option Addr} {L : Nat} {ms : Nat → Nat} {qs : Nat → Ask} {Ms : Nat → Mc} {Bl Bb Bt : Nat} {la : Nat → Int} {be : Nat → Nat} {td : Nat → Bool} (H : ApW w g h N ys Av L ms qs Ms Bl Bb Bt la be td) (hb : Below w.heap.size w W) : ApW W g h N ys Av L ms qs Ms Bl Bb Bt la be td :=
  ⟨H.1.keep hb, H.2.1.keep hb, H.2.2.1.keep hb, H.2.2.2.1.keep hb, H.2.2.2.2.keep hb⟩

/-- What the numbers say of the play. -/
def ApP (sp c0 : Int) (N : Nat) (ys : Nat → Int) (L : Nat) (qs : Nat → Ask) (W : Nat → Int) (by_ : Nat → Nat) (wi : Nat) (Ms : Nat → Mc) (la : Nat → Int) (be : Nat → Nat) (td : Nat → Bool) : Prop :=
  GI sp c0 W wi (ys 1) ∧ All64 N ys ∧ ∀ j, j < L → MI (qs j) W by_ j wi (Ms j) (la j) (be j) (td j)

theorem fin_of {t sp c0 : Int} {N L wi : Nat} {ys : Nat → Int} {qs : Nat → Ask} {W : Nat → Int} {by_ : Nat → Nat} {Ms : Nat → Mc} {la : Nat → Int} {be : Nat → Nat} {td : Nat → Bool} (H : ApP sp c0 N ys L qs W by_ wi Ms la be td)
    (hq : ∀ j, j < L → (qs j).t = t ∧ (qs j).sp = sp ∧ ((qs j).s = 0 ∨ (qs j).s = 1)) (hc : 0 ≤ c0 ∧ c0 ≤ sp) : FinOk t sp c0 L Ms := by
  obtain ⟨g, _, m⟩ := H
  refine ⟨fun i hi h4 h0 => ?_, fun i k hi hk h4 h0 h4' h0' => ?_⟩
  · obtain ⟨k, k1, _, k3⟩ := (m i hi).2.2.2.2.2.2 h4 h0
    obtain ⟨q1, q2, q3⟩ := hq i hi
    have a := won_at q2 q3 g k1 k3 hc
    rw [q1] at a
    refine ⟨a.1, a.2.1, ?_⟩
    rcases a.2.2 with ⟨_, b⟩ | ⟨_, b, c⟩
    · exact ⟨0, .inl rfl, by omega, by omega⟩
    · exact ⟨1, .inr rfl, by omega, by omega⟩
  · obtain ⟨k1, a1, a2, a3⟩ := (m i hi).2.2.2.2.2.2 h4 h0
    obtain ⟨k2, b1, b2, b3⟩ := (m k (by omega)).2.2.2.2.2.2 h4' h0'
    obtain ⟨q1, q2, q3⟩ := hq i hi
    obtain ⟨r1, r2, r3⟩ := hq k (by omega)
    exact won_disj (q1.trans r1.symm) q2 r2 q3 r3 g a1 b1 (fun e => by rw [e, b2] at a2; omega) a3 b3 hc

theorem three_made (W : World) (z1 z2 z3 : Value) (t1 t2 t3 : TypeId) (k : Nat) :
    Cs ((((W.alloc (.cells (madeCells #[z1] k) t1)).alloc (.cells (madeCells #[z2] k) t2)).alloc (.cells (madeCells #[z3] k) t3)).drew) W.heap.size k (fun _ => z1) ∧
    Cs ((((W.alloc (.cells (madeCells #[z1] k) t1)).alloc (.cells (madeCells #[z2] k) t2)).alloc (.cells (madeCells #[z3] k) t3)).drew) (W.heap.size + 1) k (fun _ => z2) ∧
    Cs ((((W.alloc (.cells (madeCells #[z1] k) t1)).alloc (.cells (madeCells #[z2] k) t2)).alloc (.cells (madeCells #[z3] k) t3)).drew) (W.heap.size + 1 + 1) k (fun _ => z3) ∧
    Below W.heap.size W ((((W.alloc (.cells (madeCells #[z1] k) t1)).alloc (.cells (madeCells #[z2] k) t2)).alloc (.cells (madeCells #[z3] k) t3)).drew) := by
  have h1 := Cs.made W z1 k t1
  have h2 := Cs.made (W.alloc (.cells (madeCells #[z1] k) t1)) z2 k t2
  have h3 := Cs.made ((W.alloc (.cells (madeCells #[z1] k) t1)).alloc (.cells (madeCells #[z2] k) t2)) z3 k t3
  simp only [World.size_alloc] at h2 h3
  have d : ∀ V : World, Below V.heap.size V V.drew := fun V => (Below.refl _ _).drew
  have a : ∀ (V : World) (o : Obj), Below V.heap.size V (V.alloc o) := fun V o => (Below.refl _ _).alloc (Nat.le_refl _) o
  exact ⟨((h1.keep (a _ _)).keep (a _ _)).keep (d _), (h2.keep (a _ _)).keep (d _), h3.keep (d _), by repeat (first | (with_reducible exact Below.refl _ _) | (with_reducible assumption) | (with_reducible refine Below.setCell ?_ (by first | (simp; done) | (simp; omega) | omega) _) | (with_reducible refine Below.alloc ?_ (by first | (simp; done) | (simp; omega) | omega) _) | (with_reducible refine Below.drew ?_))⟩

theorem IsM.gr {w W : World} {m : Nat} {c : Nat → Value} {row : Option Nat} (H : IsM w m c) (hg : w.grownBy W row) (hne : some m ≠ row) : IsM W m c :=
  ⟨Nat.lt_of_lt_of_le H.1 hg.size, fun i hi => ⟨(World.cell?_of_block (a := ⟨m, i, none⟩) (hg.block m H.1 hne)).trans (H.2 i hi).1, (World.frozen?_of_block (a := ⟨m, i, none⟩) (hg.block m H.1 hne)).trans (H.2 i hi).2⟩⟩

theorem MachL.own {W : World} {v : Value} {base k j : Nat} {ms : Nat → Nat} {qs : Nat → Ask} (H : MachL W v base k ms qs) (hj : j < k) : some (ms j) ≠ v.ownBlock := by
  obtain ⟨Av, C, rfl, _, hM, hb⟩ := H.open_
  obtain ⟨B, e, _⟩ := (hM j hj).1
  subst e
  intro h
  injection h with h
  exact (hb j hj B rfl).2 h.symm

theorem MachL.more {w W W2 : World} {v v' : Value} {base k m : Nat} {ms : Nat → Nat} {qs : Nat → Ask} (H : MachL w v base k ms qs) (hb : Below w.heap.size w W) (hm : w.heap.size ≤ m) (hbase : base ≤ w.heap.size) (hI : IsM W m (newMc.c (qs k))) (hI2 : ∀ i, i < k → IsM W2 (ms i) (newMc.c (qs i))) (hI3 : IsM W2 m (newMc.c (qs k)))
    (hO : W2.ownsRow base 30 1 v' (k + 1) ((List.range k).map (fun j => Value.pointer (some ⟨ms j, 0, none⟩)) ++ [.pointer (some ⟨m, 0, none⟩)])) : MachL W2 v' base (k + 1) (fupd ms k m) qs := by
  refine ⟨?_, fun j hj => ?_, fun i j hi hj => ?_⟩
  · rw [List.range_succ, List.map_append]
    simp only [List.map_cons, List.map_nil, fupd_same]
    rwa [List.map_congr_left (g := fun j => Value.pointer (some ⟨ms j, 0, none⟩)) (fun j hj => by rw [fupd_other _ _ (by have := List.mem_range.1 hj; omega)])]
  · by_cases e : j = k
    · subst e
      rw [fupd_same]
      exact ⟨hI3, Nat.le_trans hbase hm⟩
    · rw [fupd_other _ _ e]
      exact ⟨hI2 j (by omega), (H.2.1 j (by omega)).2⟩
  · by_cases e : i = k
    · subst e
      rw [fupd_same, fupd_other _ _ (by omega)]
      have := (H.2.1 j (by omega)).1.1
      omega
    · rw [fupd_other _ _ e, fupd_other _ _ (by omega)]
      exact H.2.2 i j (by omega) hj

set_option maxRecDepth 100000 in
set_option maxHeartbeats 8000000 in
theorem claimApart_walk (t : Int) (_ : (Lit.int .i64 t).wf = true) (sp : Int) (_ : (Lit.int .i64 sp).wf = true) (A : Option Addr) (len cap : Nat) (A2 : Option Addr) (len2 cap2 : Nat) (A3 : Option Addr) (len3 cap3 : Nat) (w : World) (hr : RowOk w 5 [.str] A len cap) (hr2 : RowOk w 5 [.int .i64, .int .i64, .int .i64] A2 len2 cap2) (hr3 : RowOk w 5 [.int .i64] A3 len3 cap3) :
    Calls Try.prog 4 #[.agg #[.int .i64 t, .int .i64 sp, .slice A len cap], .slice A2 len2 cap2, .slice A3 len3 cap3] w fun e w' => e = .returned (.bool true) ∧ Below w.heap.size w w' := by
  have hm := hr.1
  have hm2 := hr.2.1
  have hm3 := hr2.1
  have hm4 := hr2.2.1
  have hm5 := hr3.1
  have hm6 := hr3.2.1
  unfold maxLen at hm2 hm4 hm6
  obtain ⟨S, H, hS⟩ := ShOk.of_row hr
  obtain ⟨b2, o2, y, hA2, hc2⟩ := hr2.intN [.i64, .i64, .i64]
  obtain ⟨b3, o3, z, hA3, hc3⟩ := hr3.ints
  have hSm : ∀ i, i < len → (S i).size ≤ 9223372036854775807 := fun i hi => by have := hS i hi; unfold maxLen at this; exact this
  have cf := hide (fun W (hW : Below w.heap.size w W) => few14_any t sp A len cap S (by omega) W (H.keep hW) hS)
  have CR := hide (fun W (hW : Below w.heap.size w W) => right06_any t sp A len cap S (by omega) hSm W (H.keep hW))
  clear hr hr2 hr3
  cases ef : fewB len S with
  | false =>
    rw [ef] at cf
    clear ef H hS hSm CR hA2 hc2 hA3 hc3
    go_enter Try.func4, Try.ntmps4
    go_wp2_with fail
    refine (unhide cf _ (by repeat (first | exact Below.refl _ _ | assumption | refine Below.alloc ?_ (by first | (simp; done) | (simp; omega) | omega) _ | refine Below.setCell ?_ (by first | (simp; done) | (simp; omega) | omega) _ | apply Below.drew | refine Below.trans ?_ (Below.mono (by assumption) (by first | (simp; done) | (simp; omega) | omega))))).mono ?_
    rintro e w1 ⟨rfl, hw1⟩; obtain ⟨hcw1, hfw1⟩ := bcell hw1; (try (simp only [World.size_drew, World.cell?_drew, World.frozen?_drew] at hcw1 hfw1)); have hzw1 := hw1.size; (try (simp only [World.size_alloc, World.size_setCell, World.size_drew] at hzw1)); (try (have hzw1_w_0 : w.heap.size < w1.heap.size := by omega)); (try (have hzw1_w_1 : w.heap.size + 1 < w1.heap.size := by omega)); (try (have hzw1_w_2 : w.heap.size + 1 + 1 < w1.heap.size := by omega)); (try (have hzw1_w_3 : w.heap.size + 1 + 1 + 1 < w1.heap.size := by omega)); (try (have hyw1_w : w.heap.size ≤ w1.heap.size := by omega)); (try (have hyw1_wa : w.heap.size + 1 ≤ w1.heap.size := by omega))
    have B1 : Below w.heap.size w w1 := by repeat (first | exact Below.refl _ _ | assumption | refine Below.alloc ?_ (by first | (simp; done) | (simp; omega) | omega) _ | refine Below.setCell ?_ (by first | (simp; done) | (simp; omega) | omega) _ | apply Below.drew | refine Below.trans ?_ (Below.mono (by assumption) (by first | (simp; done) | (simp; omega) | omega)))
    go_wp2_with fail
    refine (works14_any _).mono ?_
    rintro en w3 ⟨rfl, hw3⟩
    have B3 := B1.trans (hw3.mono B1.size)
    go_wp2
    go_ret
    exact ⟨rfl, B3⟩
  | true =>
    rw [ef] at cf
    by_cases h1 : 100 < sp ∨ (¬ 100 < sp ∧ 8 < len2) ∨ (¬ 100 < sp ∧ ¬ 8 < len2 ∧ 60 < len3)
    · clear ef H hS hSm CR hA2 hc2 hA3 hc3
      rcases h1 with h1 | ⟨h1, h2⟩ | ⟨h1, h2, h3⟩
      all_goals
        go_enter Try.func4, Try.ntmps4
        go_wp2_with fail
        refine (unhide cf _ (by repeat (first | exact Below.refl _ _ | assumption | refine Below.alloc ?_ (by first | (simp; done) | (simp; omega) | omega) _ | refine Below.setCell ?_ (by first | (simp; done) | (simp; omega) | omega) _ | apply Below.drew | refine Below.trans ?_ (Below.mono (by assumption) (by first | (simp; done) | (simp; omega) | omega))))).mono ?_
        rintro e w1 ⟨rfl, hw1⟩; obtain ⟨hcw1, hfw1⟩ := bcell hw1; (try (simp only [World.size_drew, World.cell?_drew, World.frozen?_drew] at hcw1 hfw1)); have hzw1 := hw1.size; (try (simp only [World.size_alloc, World.size_setCell, World.size_drew] at hzw1)); (try (have hzw1_w_0 : w.heap.size < w1.heap.size := by omega)); (try (have hzw1_w_1 : w.heap.size + 1 < w1.heap.size := by omega)); (try (have hzw1_w_2 : w.heap.size + 1 + 1 < w1.heap.size := by omega)); (try (have hzw1_w_3 : w.heap.size + 1 + 1 + 1 < w1.heap.size := by omega)); (try (have hyw1_w : w.heap.size ≤ w1.heap.size := by omega)); (try (have hyw1_wa : w.heap.size + 1 ≤ w1.heap.size := by omega))
        have B1 : Below w.heap.size w w1 := by repeat (first | exact Below.refl _ _ | assumption | refine Below.alloc ?_ (by first | (simp; done) | (simp; omega) | omega) _ | refine Below.setCell ?_ (by first | (simp; done) | (simp; omega) | omega) _ | apply Below.drew | refine Below.trans ?_ (Below.mono (by assumption) (by first | (simp; done) | (simp; omega) | omega)))
        go_wp2_with fail
        refine (works14_any _).mono ?_
        rintro en w3 ⟨rfl, hw3⟩
        have B3 := B1.trans (hw3.mono B1.size)
        go_wp2
        go_ret
        exact ⟨rfl, B3⟩
    have h100 : ¬ 100 < sp := by omega
    have h8 : ¬ 8 < len2 := by omega
    have h60 : ¬ 60 < len3 := by omega
    clear h1
    cases er : okPB t sp len S with
    | false =>
      rw [er] at CR
      clear ef H hS hSm hA2 hc2 hA3 hc3 er
      go_enter Try.func4, Try.ntmps4
      go_wp2_with fail
      refine (unhide cf _ (by repeat (first | exact Below.refl _ _ | assumption | refine Below.alloc ?_ (by first | (simp; done) | (simp; omega) | omega) _ | refine Below.setCell ?_ (by first | (simp; done) | (simp; omega) | omega) _ | apply Below.drew | refine Below.trans ?_ (Below.mono (by assumption) (by first | (simp; done) | (simp; omega) | omega))))).mono ?_
      rintro e w1 ⟨rfl, hw1⟩; obtain ⟨hcw1, hfw1⟩ := bcell hw1; (try (simp only [World.size_drew, World.cell?_drew, World.frozen?_drew] at hcw1 hfw1)); have hzw1 := hw1.size; (try (simp only [World.size_alloc, World.size_setCell, World.size_drew] at hzw1)); (try (have hzw1_w_0 : w.heap.size < w1.heap.size := by omega)); (try (have hzw1_w_1 : w.heap.size + 1 < w1.heap.size := by omega)); (try (have hzw1_w_2 : w.heap.size + 1 + 1 < w1.heap.size := by omega)); (try (have hzw1_w_3 : w.heap.size + 1 + 1 + 1 < w1.heap.size := by omega)); (try (have hyw1_w : w.heap.size ≤ w1.heap.size := by omega)); (try (have hyw1_wa : w.heap.size + 1 ≤ w1.heap.size := by omega))
      have B1 : Below w.heap.size w w1 := by repeat (first | exact Below.refl _ _ | assumption | refine Below.alloc ?_ (by first | (simp; done) | (simp; omega) | omega) _ | refine Below.setCell ?_ (by first | (simp; done) | (simp; omega) | omega) _ | apply Below.drew | refine Below.trans ?_ (Below.mono (by assumption) (by first | (simp; done) | (simp; omega) | omega)))
      go_wp2_with fail
      refine (unhide CR _ B1).mono ?_
      rintro en w2 ⟨rfl, hw2⟩
      have B2 := B1.trans (hw2.mono B1.size)
      go_wp2_with fail
      refine (works14_any _).mono ?_
      rintro en w3 ⟨rfl, hw3⟩
      have B3 := B2.trans (hw3.mono B2.size)
      go_wp2
      go_ret
      exact ⟨rfl, B3⟩
    | true =>
      rw [er] at CR
      obtain ⟨ht, hsp, hT⟩ := okPB_iff.1 er
      have hlen1 : 0 < len := by have := hT.1; omega
      obtain ⟨N, hN⟩ : ∃ N : Nat, (N : Int) = 3 + 2 * t + 2 * sp := ⟨(3 + 2 * t + 2 * sp).toNat, by omega⟩
      have hNb : 69 ≤ N ∧ N ≤ 300 := by omega
      have CS := hide (fun W (hW : Below w.heap.size w W) => start_any t sp A len cap S N ⟨ht, hsp, hT⟩ hN W (H.keep hW))
      have hsz : (S 0).size ≤ 8 := (hT.2.2 0 (by omega)).1
      have hr0 : rightB 0 (2 + ((S 0).size : Nat)) sp 0 = true := rightB_iff.2 (by omega)
      have HR0 := hide hr0
      have HS := hide H
      have HSm := hide hSm
      have HA2 := hide hA2
      have HC2 := hide hc2
      have HA3 := hide hA3
      have HC3 := hide hc3
      have HFar := hide (fun (s n mo : Int) => far_ap (t := t) (sp := sp) (s := s) (n := n) (mo := mo) (cap := cap) H hlen1)
      have CN := hide (fun (s n mo : Int) W (hW : Below w.heap.size w W) (hb : basE t sp s len S = 0) (hn : asN n mo = true) => newM_ok t sp A len cap S (by omega) hSm s n mo W (H.keep hW) hb hn)
      have CN0 := hide (fun (s n mo : Int) W (hW : Below w.heap.size w W) (hno : basE t sp s len S ≠ 0 ∨ asN n mo = false) => newM_no t sp A len cap S (by omega) hSm s n mo W (H.keep hW) hno)
      have HP0 := hide (show okP t sp len S from ⟨ht, hsp, hT⟩)
      have HER := hide er
      have hl2 : len2 ≤ 8 := by omega
      clear ef H hS hSm hA2 hc2 hA3 hc3 hT hN hr0 er
      go_enter Try.func4, Try.ntmps4
      go_wp2_with fail
      refine (unhide cf _ (by repeat (first | exact Below.refl _ _ | assumption | refine Below.alloc ?_ (by first | (simp; done) | (simp; omega) | omega) _ | refine Below.setCell ?_ (by first | (simp; done) | (simp; omega) | omega) _ | apply Below.drew | refine Below.trans ?_ (Below.mono (by assumption) (by first | (simp; done) | (simp; omega) | omega))))).mono ?_
      rintro e w1 ⟨rfl, hw1⟩; obtain ⟨hcw1, hfw1⟩ := bcell hw1; (try (simp only [World.size_drew, World.cell?_drew, World.frozen?_drew] at hcw1 hfw1)); have hzw1 := hw1.size; (try (simp only [World.size_alloc, World.size_setCell, World.size_drew] at hzw1)); (try (have hzw1_w_0 : w.heap.size < w1.heap.size := by omega)); (try (have hzw1_w_1 : w.heap.size + 1 < w1.heap.size := by omega)); (try (have hzw1_w_2 : w.heap.size + 1 + 1 < w1.heap.size := by omega)); (try (have hzw1_w_3 : w.heap.size + 1 + 1 + 1 < w1.heap.size := by omega)); (try (have hyw1_w : w.heap.size ≤ w1.heap.size := by omega)); (try (have hyw1_wa : w.heap.size + 1 ≤ w1.heap.size := by omega))
      have B1 : Below w.heap.size w w1 := by repeat (first | exact Below.refl _ _ | assumption | refine Below.alloc ?_ (by first | (simp; done) | (simp; omega) | omega) _ | refine Below.setCell ?_ (by first | (simp; done) | (simp; omega) | omega) _ | apply Below.drew | refine Below.trans ?_ (Below.mono (by assumption) (by first | (simp; done) | (simp; omega) | omega)))
      have HP1 : Hid (BoxP w1 w.heap.size t sp A len cap) := hide ⟨by omega, by go_simp, by go_simp, by go_simp⟩
      have hPw : BoxP (w.alloc (.cells #[.int .i64 t, .int .i64 sp, .slice A len cap] 24)) w.heap.size t sp A len cap := ⟨by simp, by go_simp, by go_simp, by go_simp⟩
      have hBw : Below w.heap.size w (w.alloc (.cells #[.int .i64 t, .int .i64 sp, .slice A len cap] 24)) := (Below.refl _ _).alloc (Nat.le_refl _) _
      have HBw0 := hide hBw
      have HPw0 := hide hPw
      have HBz1 := hide hw1
      clear hPw hBw
      obtain ⟨w0, hw0⟩ : ∃ w0, w.alloc (.cells #[.int .i64 t, .int .i64 sp, .slice A len cap] 24) = w0 := ⟨_, rfl⟩
      rw [hw0] at HBw0 HPw0 HBz1
      have Bz1 := unhide HBz1
      clear hcw1 hfw1 hw1 hw0 HBz1
      obtain ⟨_, p0, p1, p2⟩ := unhide HP1
      go_wp2_with fail
      refine (unhide CR _ B1).mono ?_
      rintro en w2 ⟨rfl, hw2⟩
      have B2 := B1.trans (hw2.mono B1.size)
      have Bz2 := Bz1.trans (hw2.mono Bz1.size)
      have HP2 := hide ((unhide HP1).keep hw2)
      clear hw2 p0 p1 p2 HP1 CR cf B1
      obtain ⟨_, p0, p1, p2⟩ := unhide HP2
      go_wp2_with fail
      refine (unhide CS _ B2).mono ?_
      rintro en w3 ⟨bb, xs, hbb, rfl, hW3, h64, hF, hw3⟩
      have HW3 := hide hW3
      have H64 := hide h64
      have HF := hide hF
      have HP3 := hide ((unhide HP2).keep hw3)
      have B3 := B2.trans (hw3.mono B2.size)
      have Bz3 := Bz2.trans (hw3.mono Bz2.size)
      clear hW3 h64 hF hw3 HP2 CS B2 p0 p1 p2
      go_wp2_with fail
      refine (of_yes bb 0 N N xs (by omega) (by omega) _ (unhide HW3).1 (fun i hi => by rw [Nat.zero_add]; exact ((unhide HW3).2 i hi).1)).mono ?_
      rintro en w4 ⟨g, h, rfl, hb4, hg4, hh4, hA4⟩
      have HA4 := hide hA4
      have HP4 := hide ((unhide HP3).keep hb4)
      have B4 := B3.trans (hb4.mono B3.size)
      have HBz4 := hide (Bz3.trans (hb4.mono Bz3.size))
      have hz3 := B3.size
      have hz4 := hb4.size
      have hgw : w.heap.size ≤ g := by omega
      have hhw : w.heap.size ≤ h := by omega
      have hg4' := hA4.2.1
      have hh4' := hA4.2.2.1
      have hpw := (unhide HP4).1
      have HB4 := hide B4
      have hz0g : w0.heap.size ≤ g ∧ w0.heap.size ≤ h := by have := Bz3.size; omega
      clear hb4 hA4 HW3 HP3 B3 hg4 hh4 B4 Bz1 Bz2 Bz3
      go_wp2_with (go_at_call 13; refine (num14_any _ _).mono ?_; rintro e w' ⟨rfl, rfl⟩)
      go_loopw [9, 10] (fun v i wr => ∃ (k : Nat) (ms : Nat → Nat), k ≤ len2 ∧ i = .int .i64 k ∧ Hid (MachL wr v w4.heap.size k ms (apQ t sp A len cap y)) ∧ Hid (∀ j, j < k → (y j 0 = 0 ∨ y j 0 = 1) ∧ asN (y j 1) (y j 2) = true) ∧ Hid (Below w4.heap.size w4 wr)) (fun _ i _ => len2 - (intOf i).toNat)
      case atStart => exact ⟨0, fun _ => 0, by omega, rfl, hide ⟨World.ownsRow_nil _ _ _ _, fun j hj => absurd hj (by omega), fun i j hi => absurd hi (by omega)⟩, hide (fun j hj => absurd hj (by omega)), hide (Below.refl _ _)⟩
      case round =>
        as_aux_lemma =>
          obtain ⟨k, ms, hk, rfl, HM, HOKs, HBr⟩ := hrel
          by_cases hlt : k < len2
          · obtain ⟨rfl, hb2⟩ := unhide HA2 (by omega)
            have hzr := (unhide HBr).size
            have hBw : Below w.heap.size w wr := (unhide HB4).trans ((unhide HBr).mono (by omega))
            have HBW := hide hBw
            have q0 : wr.cell? ⟨b2, o2 + k * 3, none⟩ = some (.int .i64 (y k 0)) := (hBw.cell (p := ⟨b2, o2 + k * 3, none⟩) hb2).trans (unhide HC2 k hlt 0 .i64 rfl).1
            have q1 : wr.cell? ⟨b2, o2 + k * 3 + 1, none⟩ = some (.int .i64 (y k 1)) := (hBw.cell (p := ⟨b2, o2 + k * 3 + 1, none⟩) hb2).trans (unhide HC2 k hlt 1 .i64 rfl).1
            have q2 : wr.cell? ⟨b2, o2 + k * 3 + 2, none⟩ = some (.int .i64 (y k 2)) := (hBw.cell (p := ⟨b2, o2 + k * 3 + 2, none⟩) hb2).trans (unhide HC2 k hlt 2 .i64 rfl).1
            have c0 : (0 : Int) ≤ (k : Int) := by omega
            have c1 : (k : Int) < (len2 : Int) := by omega
            have hb2r : b2 < wr.heap.size := by omega
            have hpr : w.heap.size < wr.heap.size := by omega
            obtain ⟨_, p0, p1, p2⟩ := (unhide HP4).keep (unhide HBr)
            have HS0 : Hid (y k 0 = y k 0 ∧ y k 1 = y k 1 ∧ y k 2 = y k 2) := hide ⟨rfl, rfl, rfl⟩
            generalize hs0 : y k 0 = s0 at q0 HS0
            generalize hn0 : y k 1 = n0 at q1 HS0
            generalize hmo0 : y k 2 = mo0 at q2 HS0
            have HY := hide (show y k 0 = s0 ∧ y k 1 = n0 ∧ y k 2 = mo0 from ⟨hs0, hn0, hmo0⟩)
            clear hs0 hn0 hmo0 HS0 hBw
            by_cases hok : basE t sp s0 len S = 0 ∧ asN n0 mo0 = true
            · obtain ⟨hok1, hok2⟩ := hok
              have HK1 := hide hok1
              have HK2 := hide hok2
              have CNk := hide (fun W hW => unhide CN s0 n0 mo0 W hW hok1 hok2)
              clear hok1 hok2
              go_upto_region 10 with fail
              go_cut [11, 12] (fun s11 s12 wx => ∃ m, wr.heap.size ≤ m ∧ s11 = .pointer (some ⟨m, 0, none⟩) ∧ s12 = .int .i64 0 ∧ Hid (IsM wx m (mkC t sp A len cap s0 n0 mo0 1 0 0 0 0 0 0 0 0)) ∧ Below wr.heap.size wr wx)
              case first =>
                go_region_held3 (fun W => Below wr.heap.size wr W ∧ W.cell? ⟨w.heap.size, 0, none⟩ = some (.int .i64 t) ∧ W.cell? ⟨w.heap.size, 1, none⟩ = some (.int .i64 sp) ∧ W.cell? ⟨w.heap.size, 2, none⟩ = some (.slice A len cap) ∧ W.cell? ⟨b2, o2 + k * 3, none⟩ = some (.int .i64 s0) ∧ W.cell? ⟨b2, o2 + k * 3 + 1, none⟩ = some (.int .i64 n0) ∧ W.cell? ⟨b2, o2 + k * 3 + 2, none⟩ = some (.int .i64 mo0)) (((refine and_dep ?_ (fun hkq => ⟨(hkq.cell (p := ⟨w.heap.size, 0, none⟩) hpr).trans p0, (hkq.cell (p := ⟨w.heap.size, 1, none⟩) hpr).trans p1, (hkq.cell (p := ⟨w.heap.size, 2, none⟩) hpr).trans p2, (hkq.cell (p := ⟨b2, o2 + k * 3, none⟩) hb2r).trans q0, (hkq.cell (p := ⟨b2, o2 + k * 3 + 1, none⟩) hb2r).trans q1, (hkq.cell (p := ⟨b2, o2 + k * 3 + 2, none⟩) hb2r).trans q2⟩)); repeat (first | (with_reducible exact Below.refl _ _) | (with_reducible assumption) | (with_reducible refine Below.setCell ?_ (by first | (simp; done) | (simp; omega) | omega) _) | (with_reducible refine Below.alloc ?_ (by first | (simp; done) | (simp; omega) | omega) _) | (with_reducible refine Below.drew ?_) | (with_reducible refine Below.trans ?_ (Below.mono (by with_reducible assumption) (by first | (simp; done) | (simp; omega) | omega))))))
                  ((go_at_call 11; refine (unhide CNk _ ?_).mono ?_; (refine Below.trans (unhide HBW) (Below.mono (B := wr.heap.size) ?_ (Nat.le_of_lt hpr)); repeat (first | (with_reducible exact Below.refl _ _) | (with_reducible assumption) | (with_reducible refine Below.setCell ?_ (by first | (simp; done) | (simp; omega) | omega) _) | (with_reducible refine Below.alloc ?_ (by first | (simp; done) | (simp; omega) | omega) _) | (with_reducible refine Below.drew ?_) | (with_reducible refine Below.trans ?_ (Below.mono (by with_reducible assumption) (by first | (simp; done) | (simp; omega) | omega))))); rintro en w5 ⟨m, hwm, rfl, hI, hw5⟩; have hI' := hide hI; clear hI))
                all_goals go_wp2_with fail
                all_goals go_meet
                all_goals exact ⟨m, hwm, rfl, rfl, hI', by repeat (first | (with_reducible exact Below.refl _ _) | (with_reducible assumption) | (with_reducible refine Below.setCell ?_ (by first | (simp; done) | (simp; omega) | omega) _) | (with_reducible refine Below.alloc ?_ (by first | (simp; done) | (simp; omega) | omega) _) | (with_reducible refine Below.drew ?_) | (with_reducible refine Below.trans ?_ (Below.mono (by with_reducible assumption) (by first | (simp; done) | (simp; omega) | omega))))⟩
              case rest =>
                obtain ⟨m, hwm, rfl, rfl, HI, hB5⟩ := hcut
                obtain ⟨w5, hw5⟩ : ∃ w5, w5 = wc := ⟨_, rfl⟩
                subst hw5
                have HM5 := hide ((unhide HM).keep hB5)
                have HO5 := hide (unhide HM5).1
                have HB5 := hide ((unhide HBr).trans (hB5.mono (by omega)))
                have hz5 := hB5.size
                have HI5 : Hid (IsM w5 m (newMc.c (apQ t sp A len cap y k))) := hide (by have e := unhide HY; unfold apQ; rw [e.1, e.2.1, e.2.2]; exact unhide HI)
                have HBR := hide hB5
                obtain ⟨i0, hi0, hi1, hi2, hi3⟩ := info_parts info_mp
                have hlm := (unhide HI5).1
                clear p0 p1 p2 q0 q1 q2 HI hB5 CNk HBW
                go_wp2_with (first | (go_at_call 13; refine (num14_any _ _).mono ?_; rintro e w' ⟨rfl, rfl⟩) | (at_builtin; refine wpList_append_own _ rfl (.tmp 90) (.tmp 92) _ rfl w4.heap.size 30 i0 (.pointer none) 1 8 Try.underlying58 hi0 hi1 hi2 hi3 rfl (by decide) _ _ _ rfl ((unhide HO5).alloc _) ⟨w5.heap.size, 0, none⟩ 1 1 [.pointer (some ⟨m, 0, none⟩)] rfl rfl ?c1 ?c2 ?c3 ?c4 ?c5 ?_))
                case c1 => exact one_new _ _ _
                case c2 => simp [Value.oneCell']
                case c3 => simp only [maxLen]; omega
                case c4 => omega
                case c5 => simp; omega
                intro v' w6 hown' hgrow _
                have hIa : ∀ i, i < k → IsM w6 (ms i) (newMc.c (apQ t sp A len cap y i)) := fun i hi => (((unhide HM5).2.1 i hi).1.alloc _).gr hgrow ((unhide HM5).own hi)
                have hIb : IsM w6 m (newMc.c (apQ t sp A len cap y k)) := ((unhide HI5).alloc _).gr hgrow (fun e => by
                  have := ((unhide HM).1.lt m e.symm).2
                  omega)
                have HM6 := hide (MachL.more (unhide HM) (unhide HBR) hwm hzr (unhide HI5) hIa hIb (by simpa using hown'))
                have HB6 := hide (((unhide HB5).alloc (unhide HB5).size _).grown hgrow (by simp; omega) (fun r hr => ((unhide HO5).lt r hr).1))
                have HOK6 : Hid (∀ j, j < k + 1 → (y j 0 = 0 ∨ y j 0 = 1) ∧ asN (y j 1) (y j 2) = true) := hide (fun j hj => by
                  by_cases e : j = k
                  · subst e
                    have e := unhide HY
                    rw [e.1, e.2.1, e.2.2]
                    refine ⟨?_, unhide HK2⟩
                    have h0 := unhide HK1
                    unfold basE at h0
                    rw [if_pos (unhide HER)] at h0
                    split at h0
                    · assumption
                    · exact absurd h0 (by decide)
                  · exact unhide HOKs j (by omega))
                clear hown' hgrow hIa hIb HM5 HO5 HB5 HI5 HBR HM HBr HOKs HK1 HK2 HY
                go_wp2
                go_roundw
                case measure => simp [intOf]; omega
                case rel => exact ⟨k + 1, fupd ms k m, by omega, by go_num, HM6, HOK6, HB6⟩
            · have hno : basE t sp s0 len S ≠ 0 ∨ asN n0 mo0 = false := by
                by_cases h1 : basE t sp s0 len S = 0
                · right
                  rw [Bool.eq_false_iff]
                  exact fun h2 => hok ⟨h1, h2⟩
                · exact .inl h1
              have CNk := hide (fun W hW => unhide CN0 s0 n0 mo0 W hW hno)
              clear hno hok
              go_upto_region 10 with fail
              go_cut [11, 12] (fun s11 s12 wx => s11 = .pointer none ∧ s12 = .int .i64 2 ∧ Below wr.heap.size wr wx)
              case first =>
                go_region_held3 (fun W => Below wr.heap.size wr W ∧ W.cell? ⟨w.heap.size, 0, none⟩ = some (.int .i64 t) ∧ W.cell? ⟨w.heap.size, 1, none⟩ = some (.int .i64 sp) ∧ W.cell? ⟨w.heap.size, 2, none⟩ = some (.slice A len cap) ∧ W.cell? ⟨b2, o2 + k * 3, none⟩ = some (.int .i64 s0) ∧ W.cell? ⟨b2, o2 + k * 3 + 1, none⟩ = some (.int .i64 n0) ∧ W.cell? ⟨b2, o2 + k * 3 + 2, none⟩ = some (.int .i64 mo0)) (((refine and_dep ?_ (fun hkq => ⟨(hkq.cell (p := ⟨w.heap.size, 0, none⟩) hpr).trans p0, (hkq.cell (p := ⟨w.heap.size, 1, none⟩) hpr).trans p1, (hkq.cell (p := ⟨w.heap.size, 2, none⟩) hpr).trans p2, (hkq.cell (p := ⟨b2, o2 + k * 3, none⟩) hb2r).trans q0, (hkq.cell (p := ⟨b2, o2 + k * 3 + 1, none⟩) hb2r).trans q1, (hkq.cell (p := ⟨b2, o2 + k * 3 + 2, none⟩) hb2r).trans q2⟩)); repeat (first | (with_reducible exact Below.refl _ _) | (with_reducible assumption) | (with_reducible refine Below.setCell ?_ (by first | (simp; done) | (simp; omega) | omega) _) | (with_reducible refine Below.alloc ?_ (by first | (simp; done) | (simp; omega) | omega) _) | (with_reducible refine Below.drew ?_) | (with_reducible refine Below.trans ?_ (Below.mono (by with_reducible assumption) (by first | (simp; done) | (simp; omega) | omega))))))
                  ((go_at_call 11; refine (unhide CNk _ ?_).mono ?_; (refine Below.trans (unhide HBW) (Below.mono (B := wr.heap.size) ?_ (Nat.le_of_lt hpr)); repeat (first | (with_reducible exact Below.refl _ _) | (with_reducible assumption) | (with_reducible refine Below.setCell ?_ (by first | (simp; done) | (simp; omega) | omega) _) | (with_reducible refine Below.alloc ?_ (by first | (simp; done) | (simp; omega) | omega) _) | (with_reducible refine Below.drew ?_) | (with_reducible refine Below.trans ?_ (Below.mono (by with_reducible assumption) (by first | (simp; done) | (simp; omega) | omega))))); rintro en w5 ⟨rfl, hw5⟩))
                all_goals go_wp2_with fail
                all_goals go_meet
                all_goals exact ⟨rfl, rfl, by repeat (first | (with_reducible exact Below.refl _ _) | (with_reducible assumption) | (with_reducible refine Below.setCell ?_ (by first | (simp; done) | (simp; omega) | omega) _) | (with_reducible refine Below.alloc ?_ (by first | (simp; done) | (simp; omega) | omega) _) | (with_reducible refine Below.drew ?_) | (with_reducible refine Below.trans ?_ (Below.mono (by with_reducible assumption) (by first | (simp; done) | (simp; omega) | omega))))⟩
              case rest =>
                obtain ⟨rfl, rfl, hB5⟩ := hcut
                have B5 := (unhide HBW).trans (hB5.mono (by omega))
                clear p0 p1 p2 q0 q1 q2 hB5
                go_wp2_with (go_at_call 13; refine (num14_any _ _).mono ?_; rintro e w' ⟨rfl, rfl⟩)
                refine (works14_any _).mono ?_
                rintro en w7 ⟨rfl, hw7⟩
                have B7 := B5.trans (hw7.mono B5.size)
                go_wp2
                go_ret
                exact ⟨rfl, B7⟩
          · obtain rfl : k = len2 := by omega
            obtain ⟨Av, C, rfl, hLC, hMach, hBm⟩ := (unhide HM).open_
            have HMa := hide hMach
            have HBm := hide hBm
            have HInj : Hid (∀ i j, i < k → j < k → i ≠ j → ms i ≠ ms j) := hide (fun i j hi hj hne => by
              rcases Nat.lt_or_gt_of_ne hne with hl | hl
              · exact fun e => (unhide HM).2.2 j i hj hl e.symm
              · exact (unhide HM).2.2 i j hi hl)
            have HMb : Hid (∀ j, j < k → w4.heap.size ≤ ms j ∧ ms j < wr.heap.size) := hide (fun j hj => ⟨((unhide HM).2.1 j hj).2, ((unhide HM).2.1 j hj).1.1⟩)
            obtain ⟨i1, hi10, hi11, hi12, hi13⟩ := info_parts info_u64
            obtain ⟨i2, hi20, hi21, hi22, hi23⟩ := info_parts info_i64
            obtain ⟨i3, hi30, hi31, hi32, hi33⟩ := info_parts info_b1
            have hmk1 := fun (W : World) => run_make_rowN (P := Try.prog) 27 36 i1 (.int .u64 0) Try.underlying27 hi10 hi11 .i64 .i64 k k (by omega) (by rw [hi13]; omega) (by omega) W
            have hmk2 := fun (W : World) => run_make_rowN (P := Try.prog) 53 3 i2 (.int .i64 0) Try.underlying53 hi20 hi21 .i64 .i64 k k (by omega) (by rw [hi23]; omega) (by omega) W
            have hmk3 := fun (W : World) => run_make_rowN (P := Try.prog) 59 4 i3 (.bool false) Try.underlying59 hi30 hi31 .i64 .i64 k k (by omega) (by rw [hi33]; omega) (by omega) W
            rw [hi12] at hmk1
            rw [hi22] at hmk2
            rw [hi32] at hmk3
            simp only [Nat.mul_one] at hmk1 hmk2 hmk3
            have hzr := (unhide HBr).size
            have HAr := hide ((unhide HA4).keep (unhide HBr))
            have HPr := hide ((unhide HP4).keep (unhide HBr))
            have HBw := hide ((unhide HBz4).trans ((unhide HBr).mono (unhide HBz4).size))
            clear hMach hBm HM hi10 hi11 hi12 hi13 hi20 hi21 hi22 hi23 hi30 hi31 hi32 hi33 CN CN0 HA4 HP4 HB4 HBr
            go_upto_region 14 with fail
            go_cut [13, 14, 15] (fun s13 s14 s15 wx => ∃ Bl Bb Bt, s13 = .slice (some ⟨Bl, 0, none⟩) k k ∧ s14 = .slice (some ⟨Bb, 0, none⟩) k k ∧ s15 = .slice (some ⟨Bt, 0, none⟩) k k ∧ (wr.heap.size ≤ Bl ∧ wr.heap.size ≤ Bb ∧ wr.heap.size ≤ Bt ∧ Bl ≠ Bb ∧ Bl ≠ Bt ∧ Bb ≠ Bt) ∧ Hid (Cs wx Bl k (fun _ => .int .u64 0)) ∧ Hid (Cs wx Bb k (fun _ => .int .i64 0)) ∧ Hid (Cs wx Bt k (fun _ => .bool false)) ∧ Below wr.heap.size wr wx)
            case first =>
              go_region
              all_goals go_wp2_with fail
              all_goals go_meet
              all_goals first
                | (have q := three_made wr (.int .u64 0) (.int .i64 0) (.bool false) 36 3 4 k; exact ⟨_, _, _, rfl, rfl, rfl, ⟨by omega, by omega, by omega, by omega, by omega, by omega⟩, hide q.1, hide q.2.1, hide q.2.2.1, q.2.2.2⟩)
                | (have q := three_made wr (.int .u64 0) (.bool false) (.int .i64 0) 36 4 3 k; exact ⟨_, _, _, rfl, rfl, rfl, ⟨by omega, by omega, by omega, by omega, by omega, by omega⟩, hide q.1, hide q.2.2.1, hide q.2.1, q.2.2.2⟩)
                | (have q := three_made wr (.int .i64 0) (.int .u64 0) (.bool false) 3 36 4 k; exact ⟨_, _, _, rfl, rfl, rfl, ⟨by omega, by omega, by omega, by omega, by omega, by omega⟩, hide q.2.1, hide q.1, hide q.2.2.1, q.2.2.2⟩)
                | (have q := three_made wr (.int .i64 0) (.bool false) (.int .u64 0) 3 4 36 k; exact ⟨_, _, _, rfl, rfl, rfl, ⟨by omega, by omega, by omega, by omega, by omega, by omega⟩, hide q.2.2.1, hide q.1, hide q.2.1, q.2.2.2⟩)
                | (have q := three_made wr (.bool false) (.int .u64 0) (.int .i64 0) 4 36 3 k; exact ⟨_, _, _, rfl, rfl, rfl, ⟨by omega, by omega, by omega, by omega, by omega, by omega⟩, hide q.2.1, hide q.2.2.1, hide q.1, q.2.2.2⟩)
                | (have q := three_made wr (.bool false) (.int .i64 0) (.int .u64 0) 4 3 36 k; exact ⟨_, _, _, rfl, rfl, rfl, ⟨by omega, by omega, by omega, by omega, by omega, by omega⟩, hide q.2.2.1, hide q.2.1, hide q.1, q.2.2.2⟩)
            case rest =>
              obtain ⟨Bl, Bb, Bt, rfl, rfl, rfl, ⟨d1, d2, d3, d4, d5, d6⟩, HL0, HE0, HT0, hB5⟩ := hcut
              obtain ⟨w5, hw5⟩ : ∃ w5, w5 = wc := ⟨_, rfl⟩
              subst hw5
              have hz5 := hB5.size
              have HW0 : Hid (ApW w5 g h N xs Av k ms (apQ t sp A len cap y) (fun _ => newMc) Bl Bb Bt (fun _ => 0) (fun _ => 0) (fun _ => false)) := hide ⟨(unhide HAr).keep hB5, (unhide HMa).keep hB5, unhide HL0, unhide HE0, unhide HT0⟩
              have HP0' : Hid (ApP sp (2 + ((S 0).size : Nat)) N xs k (apQ t sp A len cap y) (fun _ => frontW 0 (2 + ((S 0).size : Nat)) sp 0) (fun _ => 0) 0 (fun _ => newMc) (fun _ => 0) (fun _ => 0) (fun _ => false)) := hide ⟨⟨fun i hi => (Rt.of (unhide HR0)).1, fun i hi => absurd hi (by omega), unhide HF, (Rt.of (unhide HR0)).2.1⟩, unhide H64, fun j hj => MI.start ..⟩
              have HBx := hide ((unhide HBw).trans (hB5.mono (unhide HBw).size))
              have hw00 := (unhide HBw0).size
              have HA3' : Hid (0 < len3 → A3 = some ⟨b3, o3, none⟩ ∧ b3 < w0.heap.size) := hide (fun h => ⟨(unhide HA3 h).1, Nat.lt_of_lt_of_le (unhide HA3 h).2 hw00⟩)
              have HC3' : Hid (∀ i, i < len3 → w0.cell? ⟨b3, o3 + i, none⟩ = some (.int .i64 (z i)) ∧ (Lit.int .i64 (z i)).wf = true) := hide (fun i hi => ⟨((unhide HBw0).cell (p := ⟨b3, o3 + i, none⟩) (unhide HA3 (by omega)).2).trans (unhide HC3 i hi).1, (unhide HC3 i hi).2⟩)
              have HA2' : Hid (0 < k → A2 = some ⟨b2, o2, none⟩ ∧ b2 < w0.heap.size) := hide (fun h => ⟨(unhide HA2 h).1, Nat.lt_of_lt_of_le (unhide HA2 h).2 hw00⟩)
              have HC2' : Hid (∀ i, i < k → w0.cell? ⟨b2, o2 + i * 3 + 1, none⟩ = some (.int .i64 (y i 1))) := hide (fun i hi => ((unhide HBw0).cell (p := ⟨b2, o2 + i * 3 + 1, none⟩) (unhide HA2 (by omega)).2).trans (unhide HC2 i hi 1 .i64 rfl).1)
              have HS' := hide ((unhide HS).keep (unhide HBw0))
              have HFar' := hide (fun (s n mo : Int) => far_ap (t := t) (sp := sp) (s := s) (n := n) (mo := mo) (cap := cap) (unhide HS') hlen1)
              have hzw0 : w0.heap.size ≤ w4.heap.size := (unhide HBz4).size
              have HD : Hid (∀ j, j < k → (ms j ≠ g ∧ ms j ≠ h ∧ ms j ≠ Bl ∧ ms j ≠ Bb ∧ ms j ≠ Bt) ∧ (∀ B, Av = some ⟨B, 0, none⟩ → B ≠ ms j ∧ B ≠ g ∧ B ≠ h ∧ B ≠ Bl ∧ B ≠ Bb ∧ B ≠ Bt) ∧ w0.heap.size ≤ ms j) := hide (fun j hj => by
                have m1 := unhide HMb j hj
                refine ⟨⟨by omega, by omega, by omega, by omega, by omega⟩, fun B e => ?_, by omega⟩
                have m2 := unhide HBm j hj B e
                obtain ⟨B', e', hl, _⟩ := (unhide HMa j hj).1
                rw [e] at e'
                injection e' with e'
                injection e' with e' _ _
                exact ⟨m2.2, by omega, by omega, by omega, by omega, by omega⟩)
              have HQ := hide (fun j (hj : j < k) => unhide HOKs j hj)
              have e1 := unhide HER
              have hgl : g < Bl := by omega
              have hhl : h < Bl := by omega
              have d7 : w0.heap.size ≤ Bl := by omega
              have d8 : w0.heap.size ≤ Bb := by omega
              have d9 : w0.heap.size ≤ Bt := by omega
              have dg : ¬ Bl = g ∧ ¬ Bl = h ∧ ¬ Bb = g ∧ ¬ Bb = h ∧ ¬ Bt = g ∧ ¬ Bt = h := by omega
              have HDs := hide (show w0.heap.size ≤ Bl ∧ w0.heap.size ≤ Bb ∧ w0.heap.size ≤ Bt ∧ Bl ≠ Bb ∧ Bl ≠ Bt ∧ Bb ≠ Bt ∧ (¬ Bl = g ∧ ¬ Bl = h ∧ ¬ Bb = g ∧ ¬ Bb = h ∧ ¬ Bt = g ∧ ¬ Bt = h) from ⟨d7, d8, d9, d4, d5, d6, dg⟩)
              have HPx := hide ((unhide HPr).keep hB5)
              clear hmk1 hmk2 hmk3 HL0 HE0 HT0 hB5 HAr HPr HBw HMa HBm HMb HOKs H64 HF HR0 HA2 HC2 HA3 HC3 HS HFar HBz4 hw00 hzw0 d1 d2 d3 d4 d5 d6 d7 d8 d9 dg hgl hhl e1 hg4' hh4' hgw
              have HHW := hide hz0g.2
              go_wp2
              obtain ⟨wo, hwo⟩ : ∃ wo, wo = wr := ⟨_, rfl⟩
              subst hwo
              go_loopw [16, 17] (fun s16 i wx => ∃ (p wi : Nat) (W : Nat → Int) (by_ : Nat → Nat) (ys : Nat → Int) (Ms : Nat → Mc) (la : Nat → Int) (be : Nat → Nat) (td : Nat → Bool), p ≤ len3 ∧ i = .int .i64 p ∧ s16 = .int .i64 wi ∧ wi ≤ p ∧ Hid (ApP sp (2 + ((S 0).size : Nat)) N ys k (apQ t sp A len cap y) W by_ wi Ms la be td) ∧ Hid (ApW wx g h N ys Av k ms (apQ t sp A len cap y) Ms Bl Bb Bt la be td) ∧ Hid (Below w0.heap.size w0 wx)) (fun _ i _ => len3 - (intOf i).toNat)
              case atStart => exact ⟨0, 0, _, _, xs, _, _, _, _, by omega, rfl, rfl, by omega, HP0', HW0, HBx⟩
              case round =>
                obtain ⟨p, wi, W, by_, ys, Ms, la, be, td, hp, rfl, rfl, hwp, HP, HW, HB⟩ := hrel
                clear HP0' HW0 HBx
                by_cases hlt : p < len3
                · obtain ⟨rfl, hb3⟩ := unhide HA3' (by omega)
                  have a0 : wr.cell? ⟨b3, o3 + p, none⟩ = some (.int .i64 (z p)) := ((unhide HB).cell (p := ⟨b3, o3 + p, none⟩) hb3).trans (unhide HC3' p hlt).1
                  have c0 : (0 : Int) ≤ (p : Int) := by omega
                  have c1 : (p : Int) < (len3 : Int) := by omega
                  by_cases hn0 : z p < 0
                  · go_wp2
                    go_roundw
                    case measure => simp [intOf]; omega
                    case rel => exact ⟨p + 1, wi, W, by_, ys, Ms, la, be, td, by omega, by go_num, rfl, by omega, HP, HW, HB⟩
                  by_cases hn1 : (k : Int) ≤ z p
                  · go_wp2
                    go_roundw
                    case measure => simp [intOf]; omega
                    case rel => exact ⟨p + 1, wi, W, by_, ys, Ms, la, be, td, by omega, by go_num, rfl, by omega, HP, HW, HB⟩
                  obtain ⟨j, hj⟩ : ∃ j : Nat, z p = (j : Int) := ⟨(z p).toNat, by omega⟩
                  rw [hj] at a0 hn0 hn1
                  have hjk : j < k := by omega
                  obtain ⟨rfl, hb2⟩ := unhide HA2' (by omega)
                  have j0 : (0 : Int) ≤ (j : Int) := by omega
                  have j1 : (j : Int) < (k : Int) := by omega
                  obtain ⟨wA, wM, wL, wE, wT⟩ := unhide HW
                  obtain ⟨⟨B, rfl, hBl, hBc⟩, hIj, hokj⟩ := wM j hjk
                  have HI := hide hIj
                  obtain ⟨gi, g64, gm⟩ := unhide HP
                  have HMI := hide (gm j hjk)
                  obtain ⟨⟨e1, e2, e3, e4', e5⟩, eB0, e7⟩ := unhide HD j hjk
                  obtain ⟨f1, f2, f3, f4, f5, f6⟩ := eB0 B rfl
                  have hM := unhide HMI
                  have hqs := (unhide HQ j hjk)
                  have HIn := hide (fun i (hi : i < k) (hne : i ≠ j) => unhide HInj i j hi hjk hne)
                  have HBn : Hid (∀ B', (some (⟨B, 0, none⟩ : Addr)) = some ⟨B', 0, none⟩ → B' ≠ ms j) := hide (fun B' e => ((unhide HD j hjk).2.1 B' e).1)
                  have HOKj := hide hokj
                  have HGI := hide gi
                  have hl64 := hM.2.1
                  have hzr := (unhide HB).size
                  have cL := (wL.2 j hjk).1
                  have cE := (wE.2 j hjk).1
                  have cT := (wT.2 j hjk).1
                  have hlB := wL.1
                  have hlE := wE.1
                  have hlT := wT.1
                  have hlm := hIj.1
                  clear wA wM wL wE wT gi gm hIj hokj hM hj eB0
                  clear HI cL cE cT hlB hlE hlT hlm
                  go_wp2_with fail
                  have HIo := hide ((unhide HW).2.1 j hjk).2.1
                  refine (outM_any (apQ t sp A len cap y j) (Ms j) (ms j) _ (unhide HIo) (unhide HOKj)).mono ?_
                  rintro en w6 ⟨rfl, hw6⟩
                  have HW6 := hide ((unhide HW).keep hw6)
                  have HB6 := hide ((unhide HB).trans (hw6.mono hzr))
                  have hBa : Below w6.heap.size w6 (w6.alloc (.cells #[.int .i64 (Ms j).oe, .int .i64 (Ms j).oa, .int .i64 (Ms j).og] 38)) := (Below.refl _ _).alloc (Nat.le_refl _) _
                  have HW7 := hide ((unhide HW6).keep hBa)
                  have HB7 := hide ((unhide HB6).trans (hBa.mono (unhide HB6).size))
                  go_upto_region 22 with fail
                  generalize w6.alloc (.cells #[.int .i64 (Ms j).oe, .int .i64 (Ms j).oa, .int .i64 (Ms j).og] 38) = w7 at *
                  clear hw6 hBa HW6 HB6 HW HB a0 hBl hBc HIo hzr
                  by_cases h4 : (Ms j).pl = 4
                  · have e4 : ((Ms j).pl - 1 == 3) = true := by rw [h4]; rfl
                    rw [e4]
                    clear e4 h4
                    go_wp2
                    go_roundw
                    case measure => simp [intOf]; omega
                    case rel => exact ⟨p + 1, wi, W, by_, ys, Ms, la, be, td, by omega, by go_num, rfl, by omega, HP, HW7, HB7⟩
                  have e4 : ((Ms j).pl - 1 == 3) = false := by simp; omega
                  rw [e4]
                  clear e4
                  go_upto_region 23 with fail
                  obtain ⟨wA, wM, wL, wE, wT⟩ := unhide HW7
                  obtain ⟨⟨B', eB, hBl, hBc⟩, hIj, _⟩ := wM j hjk
                  obtain rfl : B = B' := by
                    injection eB with eB
                    injection eB with eB _ _
                  have HI := hide hIj
                  have HAr := hide wA
                  have cL := (wL.2 j hjk).1
                  have cE := (wE.2 j hjk).1
                  have cT := (wT.2 j hjk).1
                  have fL := (wL.2 j hjk).2
                  have fE := (wE.2 j hjk).2
                  have fT := (wT.2 j hjk).2
                  have hlB := wL.1
                  have hlE := wE.1
                  have hlT := wT.1
                  have hlm := hIj.1
                  (try dsimp only at cL cE cT)
                  clear wA wM wL wE wT hIj eB
                  have C := hide (fun W' (hW : Below w7.heap.size w7 W') => nextM_any (apQ t sp A len cap y j) (Ms j) (la j) (ms j) S (show len ≤ 9223372036854775807 by omega) (unhide HSm) W' ⟨(unhide HS').keep ((unhide HB7).trans (hW.mono (unhide HB7).size)), unhide HER, hqs.1, hqs.2⟩ (unhide HFar' (y j 0) (y j 1) (y j 2) (ms j) e7) ((unhide HI).keep hW) (unhide HOKj) hl64.1 hl64.2)
                  unfold Nx.val at C
                  obtain ⟨r, hr⟩ : ∃ r, nextM (apQ t sp A len cap y j) (Ms j) (la j) = r := ⟨_, rfl⟩
                  rw [hr] at C
                  have HR := hide hr
                  clear hr
                  obtain ⟨rM, rk, ra, ro, rv, rb⟩ := r
                  dsimp only at C
                  have hz7 := (unhide HB7).size
                  have hne7 : w7.heap.size ≠ ms j := by omega
                  have e1' : ¬ B = ms j := f1
                  have e3' : ¬ Bl = ms j := fun e => e3 e.symm
                  go_cut [21, 22] (fun s21 s22 wx => ∃ P, s21 = .pointer (some ⟨P, 0, none⟩) ∧ s22 = .bool rb ∧ w7.heap.size ≤ P ∧ Hid (Ac4 wx P rk ra ro rv) ∧ Hid (IsM wx (ms j) (rM.c (apQ t sp A len cap y j))) ∧ Chg (fun i => i = ms j) w7 wx)
                  case first =>
                    go_region_held3 (fun W' => Chg (fun i => i = ms j) w7 W' ∧ W'.cell? ⟨B, j, none⟩ = some (.pointer (some ⟨ms j, 0, none⟩)) ∧ W'.cell? ⟨Bl, j, none⟩ = some (.int .u64 (la j))) (((refine and_dep ?_ (fun hkq => ⟨(hkq.cell hBl e1').trans hBc, (hkq.cell hlB e3').trans cL⟩)); repeat (first | (with_reducible exact Chg.refl _ _) | (with_reducible assumption) | (with_reducible refine Chg.alloc ?_ _) | (with_reducible refine Chg.drew ?_) | (with_reducible refine Chg.set ?_ (.inl (by first | exact Nat.le_refl _ | omega)) _) | (with_reducible refine Chg.trans ?_ (Chg.gr (by with_reducible assumption) rfl)))))
                      ((go_at_call 15; refine (unhide C _ (by repeat (first | (with_reducible exact Below.refl _ _) | (with_reducible assumption) | (with_reducible refine Below.setCell ?_ (by first | (simp; done) | (simp; omega) | omega) _) | (with_reducible refine Below.alloc ?_ (by first | (simp; done) | (simp; omega) | omega) _) | (with_reducible refine Below.drew ?_) | (with_reducible refine Below.trans ?_ (Below.mono (by with_reducible assumption) (by first | (simp; done) | (simp; omega) | omega)))))).mono ?_; rintro en w8 ⟨rfl, hg8, hI8⟩; have hI8' := hide hI8; have hcw8 := fun b o (h1 : b < _) (h2 : b ≠ ms j) => gr_cell hg8 h1 h2 o; have hfw8 := fun b o (h1 : b < _) (h2 : b ≠ ms j) => gr_frozen hg8 h1 h2 o; have hz8 := hg8.size; (try (simp only [World.size_alloc, World.size_drew] at hz8)); clear hI8))
                    all_goals go_wp2_with fail
                    all_goals go_meet
                    all_goals first
                      | exact ⟨_, rfl, rfl, hz8, hide (Ac4.new w8 _ _ _ _ _), hide ((unhide hI8').alloc _), by repeat (first | (with_reducible exact Chg.refl _ _) | (with_reducible assumption) | (with_reducible refine Chg.alloc ?_ _) | (with_reducible refine Chg.drew ?_) | (with_reducible refine Chg.set ?_ (.inl (by first | exact Nat.le_refl _ | omega)) _) | (with_reducible refine Chg.trans ?_ (Chg.gr (by with_reducible assumption) rfl)))⟩
                      | exact ⟨_, rfl, rfl, Nat.le_refl _, hide ⟨by simp; omega, by go_simp, by go_simp, by go_simp, by go_simp⟩, hide (((((unhide hI8').far hne7 _).far hne7 _).far hne7 _).far hne7 _), by repeat (first | (with_reducible exact Chg.refl _ _) | (with_reducible assumption) | (with_reducible refine Chg.alloc ?_ _) | (with_reducible refine Chg.drew ?_) | (with_reducible refine Chg.set ?_ (.inl (by first | exact Nat.le_refl _ | omega)) _) | (with_reducible refine Chg.trans ?_ (Chg.gr (by with_reducible assumption) rfl)))⟩
                  case rest =>
                    obtain ⟨P, rfl, rfl, hP, HX8, HI8, hC8⟩ := hcut
                    obtain ⟨w8, hw8⟩ : ∃ w8, w8 = wc := ⟨_, rfl⟩
                    subst hw8
                    have hz8 := hC8.size
                    have hrok := nextM_ok (apQ t sp A len cap y j) (Ms j) (la j) (unhide HOKj)
                    rw [unhide HR] at hrok
                    have HROK := hide hrok
                    have HW8 : Hid (ApW w8 g h N ys (some ⟨B, 0, none⟩) k ms (apQ t sp A len cap y) (fupd Ms j rM) Bl Bb Bt la be td) := hide ⟨(unhide HAr).chg hC8 (fun e => e1 e.symm) (fun e => e2 e.symm), (unhide HW7).2.1.step hC8 (unhide HI8) hrok (unhide HBn) (unhide HIn), (unhide HW7).2.2.1.chg hC8 (fun e => e3 e.symm), (unhide HW7).2.2.2.1.chg hC8 (fun e => e4' e.symm), (unhide HW7).2.2.2.2.chg hC8 (fun e => e5 e.symm)⟩
                    have HB8 := hide ((unhide HB7).trans (hC8.below (n := w0.heap.size) (fun i e => by subst e; exact e7) hz7))
                    have hP1 : Bl ≠ P ∧ Bb ≠ P ∧ Bt ≠ P ∧ g ≠ P ∧ h ≠ P := by
                      have q1 := (unhide HAr).2.1
                      have q2 := (unhide HAr).2.2.1
                      refine ⟨?_, ?_, ?_, ?_, ?_⟩ <;> omega
                    have HPn := hide hP1
                    clear hP1 hrok hC8 HI8 HI HAr cL cE cT fL fE fT hlB hlE hlT hlm hBl hBc HW7 HB7 C hP hz8 hz7 hne7 e1' e3'
                    cases rb with
                    | false =>
                      as_aux_lemma =>
                        have SE := step_end (q := apQ t sp A len cap y j) (sp := sp) rfl hqs.1 hqs.2 (unhide HMI) (unhide HGI) h4 (by rw [unhide HR])
                        rw [unhide HR] at SE
                        obtain ⟨se1, se2, se3, se4, se5⟩ := SE
                        dsimp only at se1 se2 se3 se4 se5
                        have HPn2 : Hid (ApP sp (2 + ((S 0).size : Nat)) N ys k (apQ t sp A len cap y) W by_ wi (fupd Ms j rM) la be td) := hide ⟨(unhide HP).1, (unhide HP).2.1, fun i hi => by
                          by_cases e : i = j
                          · subst e; rw [fupd_same]; exact se1
                          · rw [fupd_other _ _ e]; exact (unhide HP).2.2 i hi⟩
                        have SE3 := hide se3
                        have SE4 := hide se4
                        have SE5 := hide se5
                        have e4r : (rM.pl - 1 == 3) = true := by rw [se2]; rfl
                        clear se1 se2 se3 se4 se5 HR HMI
                        obtain ⟨wA, wM, wL, wE, wT⟩ := unhide HW8
                        obtain ⟨⟨B', eB, hBl, hBc⟩, hIj, _⟩ := wM j hjk
                        obtain rfl : B = B' := by
                          injection eB with eB
                          injection eB with eB _ _
                        have HI := hide hIj
                        have HAr := hide wA
                        have cL := (wL.2 j hjk).1
                        have cE := (wE.2 j hjk).1
                        have cT := (wT.2 j hjk).1
                        have fL := (wL.2 j hjk).2
                        have fE := (wE.2 j hjk).2
                        have fT := (wT.2 j hjk).2
                        have hlB := wL.1
                        have hlE := wE.1
                        have hlT := wT.1
                        have hlm := hIj.1
                        (try dsimp only at cL cE cT)
                        clear wA wM wL wE wT hIj eB
                        rw [fupd_same] at HI
                        go_wp2_with fail
                        refine (outM_any (apQ t sp A len cap y j) rM (ms j) _ (unhide HI) (unhide HROK)).mono ?_
                        rw [e4r]
                        rintro en w9 ⟨rfl, hw9⟩
                        have HW9 := hide ((unhide HW8).keep hw9)
                        have HB9 := hide ((unhide HB8).trans (hw9.mono (unhide HB8).size))
                        have hBa : Below w9.heap.size w9 (w9.alloc (.cells #[.int .i64 rM.oe, .int .i64 rM.oa, .int .i64 rM.og] 38)) := (Below.refl _ _).alloc (Nat.le_refl _) _
                        have HO10 := hide (Cl3.new w9 38 rM.oe rM.oa rM.og)
                        have HW10 := hide ((unhide HW9).keep hBa)
                        have HB10 := hide ((unhide HB9).trans (hBa.mono (unhide HB9).size))
                        go_upto_region 26 with fail
                        generalize w9.heap.size = O at *
                        generalize w9.alloc (.cells #[.int .i64 rM.oe, .int .i64 rM.oa, .int .i64 rM.og] 38) = w10 at *
                        clear HI HAr cL cE cT fL fE fT hlB hlE hlT hlm hBl hBc hw9 hBa HW9 HB9 HW8 HB8
                        obtain ⟨wA, wM, wL, wE, wT⟩ := unhide HW10
                        obtain ⟨⟨B', eB, hBl, hBc⟩, hIj, _⟩ := wM j hjk
                        obtain rfl : B = B' := by
                          injection eB with eB
                          injection eB with eB _ _
                        have HI := hide hIj
                        have HAr := hide wA
                        have cL := (wL.2 j hjk).1
                        have cE := (wE.2 j hjk).1
                        have cT := (wT.2 j hjk).1
                        have fL := (wL.2 j hjk).2
                        have fE := (wE.2 j hjk).2
                        have fT := (wT.2 j hjk).2
                        have hlB := wL.1
                        have hlE := wE.1
                        have hlT := wT.1
                        have hlm := hIj.1
                        (try dsimp only at cL cE cT)
                        clear wA wM wL wE wT hIj eB
                        go_wp2_with fail
                        refine (refOfFront_any (la j) _ hl64.1 hl64.2).mono ?_
                        unfold FrontRes.val
                        rintro en w11 ⟨rfl, hw11⟩
                        have HW11 := hide ((unhide HW10).keep hw11)
                        have HO11 := hide ((unhide HO10).keep hw11)
                        have HB11 := hide ((unhide HB10).trans (hw11.mono (unhide HB10).size))
                        generalize hF : ofFrontF (la j) = fr at *
                        obtain ⟨qs_, ql_, qh_, qo_, qe_⟩ := fr
                        have hBa : Below w11.heap.size w11 (w11.alloc (.cells #[.int .i64 qs_, .int .i64 ql_, .int .i64 qh_, .int .i64 qo_] 61)) := (Below.refl _ _).alloc (Nat.le_refl _) _
                        have HF12 := hide (Fr.new w11 61 qs_ ql_ qh_ qo_)
                        have HW12 := hide ((unhide HW11).keep hBa)
                        have HO12 := hide ((unhide HO11).keep hBa)
                        have HB12 := hide ((unhide HB11).trans (hBa.mono (unhide HB11).size))
                        go_upto_region 27 with fail
                        generalize w11.heap.size = O2 at *
                        generalize w11.alloc (.cells #[.int .i64 qs_, .int .i64 ql_, .int .i64 qh_, .int .i64 qo_] 61) = w12 at *
                        clear HI HAr cL cE cT fL fE fT hlB hlE hlT hlm hBl hBc hw11 hBa HW11 HB11 HW10 HB10 HO10 HO11
                        obtain ⟨wA, wM, wL, wE, wT⟩ := unhide HW12
                        obtain ⟨⟨B', eB, hBl, hBc⟩, hIj, _⟩ := wM j hjk
                        obtain rfl : B = B' := by
                          injection eB with eB
                          injection eB with eB _ _
                        have HI := hide hIj
                        have HAr := hide wA
                        have cL := (wL.2 j hjk).1
                        have cE := (wE.2 j hjk).1
                        have cT := (wT.2 j hjk).1
                        have fL := (wL.2 j hjk).2
                        have fE := (wE.2 j hjk).2
                        have fT := (wT.2 j hjk).2
                        have hlB := wL.1
                        have hlE := wE.1
                        have hlT := wT.1
                        have hlm := hIj.1
                        (try dsimp only at cL cE cT)
                        clear wA wM wL wE wT hIj eB
                        have hn12 : w12.cell? ⟨b2, o2 + j * 3 + 1, none⟩ = some (.int .i64 (y j 1)) := ((unhide HB12).cell (p := ⟨b2, o2 + j * 3 + 1, none⟩) hb2).trans (unhide HC2' j hjk)
                        have hb212 : b2 < w12.heap.size := Nat.lt_of_lt_of_le hb2 (unhide HB12).size
                        have u0 : ∀ v : Later w12, v.val.cell? ⟨O, 0, none⟩ = some (.int .i64 rM.oe) := Later.cell (unhide HO12).1 (unhide HO12).2.1
                        have u1 : ∀ v : Later w12, v.val.cell? ⟨Bb, j, none⟩ = some (.int .i64 (be j : Nat)) := Later.cell hlE cE
                        have u2 : ∀ v : Later w12, v.val.cell? ⟨O2, 0, none⟩ = some (.int .i64 qs_) := Later.cell (unhide HF12).2 (unhide HF12).1.1
                        have u3 : ∀ v : Later w12, v.val.cell? ⟨O2, 1, none⟩ = some (.int .i64 ql_) := Later.cell (unhide HF12).2 (unhide HF12).1.2.1
                        have u4 : ∀ v : Later w12, v.val.cell? ⟨O2, 2, none⟩ = some (.int .i64 qh_) := Later.cell (unhide HF12).2 (unhide HF12).1.2.2.1
                        have u5 : ∀ v : Later w12, v.val.cell? ⟨O2, 3, none⟩ = some (.int .i64 qo_) := Later.cell (unhide HF12).2 (unhide HF12).1.2.2.2
                        have u6 : ∀ v : Later w12, v.val.cell? ⟨b2, o2 + j * 3 + 1, none⟩ = some (.int .i64 (y j 1)) := Later.cell hb212 hn12
                        have CFt := hide (fun W' => refFits_any qs_ ql_ qh_ qo_ (y j 1) W')
                        have m240 : (rM.oe == 240) = false := by simpa using unhide SE5
                        clear HI HAr cL cE cT fL fE fT hlB hlE hlT hlm hBl hBc hn12
                        by_cases h185 : rM.oe = 185
                        · have m185 : (rM.oe == 185) = true := by simp [h185]
                          have m184 : (rM.oe == 184) = false := by simp; omega
                          have k1 := unhide SE3 h185
                          have k2 : IntKind.i64.wrap ((wi : Int) - (be j : Nat)) = (wi : Int) - (be j : Nat) := IntWalk.i64_in _ (by omega)
                          have k3 : decide ((wi : Int) - (be j : Nat) < 2) = false := by simp; omega
                          clear h185 k1 SE3 SE4 SE5
                          refine wp_region_later w12 (by kernel_rfl) (by kernel_rfl) (by repeat (first | exact Below.refl _ _ | assumption | refine Below.alloc ?_ (by first | (simp; done) | (simp; omega) | omega) _ | refine Below.setCell ?_ (by first | (simp; done) | (simp; omega) | omega) _ | apply Below.drew | refine Below.trans ?_ (Below.mono (by assumption) (by first | (simp; done) | (simp; omega) | omega)))) ?_; (repeat (first | go_big_quiet_skip | (go_big_quiet_want; (first | ((fail); go_big_quiet_on; simp only [Act.put, List.setIfInBounds_toArray, List.set_cons_zero, List.set_cons_succ]) | (go_big_quiet_op; (first | go_big_quiet_on | go_big_quiet_call ((fail)))))))); refine wpQuiet_nil ?_
                          intro w13 hw13
                          have HW13 := hide ((unhide HW12).keep hw13)
                          have HB13 := hide ((unhide HB12).trans (hw13.mono (unhide HB12).size))
                          clear u0 u1 u2 u3 u4 u5 u6 hw13 HW12 HB12 HF12 HO12 k2
                          go_wp2
                          go_roundw
                          case measure => simp [intOf]; omega
                          case rel => exact ⟨p + 1, wi, W, by_, ys, fupd Ms j rM, la, be, td, by omega, by go_num, rfl, by omega, HPn2, HW13, HB13⟩
                        · have m185 : (rM.oe == 185) = false := by simpa using h185
                          by_cases h184 : rM.oe = 184
                          · have m184 : (rM.oe == 184) = true := by simp [h184]
                            have k1 := unhide SE4 h184
                            (try dsimp only at k1)
                            rw [show (apQ t sp A len cap y j).n = y j 1 from rfl] at k1
                            rw [k1] at CFt
                            clear h185 h184 k1 SE3 SE4 SE5
                            refine wp_region_later w12 (by kernel_rfl) (by kernel_rfl) (by repeat (first | exact Below.refl _ _ | assumption | refine Below.alloc ?_ (by first | (simp; done) | (simp; omega) | omega) _ | refine Below.setCell ?_ (by first | (simp; done) | (simp; omega) | omega) _ | apply Below.drew | refine Below.trans ?_ (Below.mono (by assumption) (by first | (simp; done) | (simp; omega) | omega)))) ?_; (repeat (first | go_big_quiet_skip | (go_big_quiet_want; (first | ((fail); go_big_quiet_on; simp only [Act.put, List.setIfInBounds_toArray, List.set_cons_zero, List.set_cons_succ]) | (go_big_quiet_op; (first | go_big_quiet_on | go_big_quiet_call ((first | (go_at_call 23; exact later_call (unhide CFt _)))))))))); refine wpQuiet_nil ?_
                            intro w13 hw13
                            have HW13 := hide ((unhide HW12).keep hw13)
                            have HB13 := hide ((unhide HB12).trans (hw13.mono (unhide HB12).size))
                            clear u0 u1 u2 u3 u4 u5 u6 hw13 HW12 HB12 HF12 HO12
                            go_wp2
                            go_roundw
                            case measure => simp [intOf]; omega
                            case rel => exact ⟨p + 1, wi, W, by_, ys, fupd Ms j rM, la, be, td, by omega, by go_num, rfl, by omega, HPn2, HW13, HB13⟩
                          · have m184 : (rM.oe == 184) = false := by simpa using h184
                            clear h185 h184 SE3 SE4 SE5
                            refine wp_region_later w12 (by kernel_rfl) (by kernel_rfl) (by repeat (first | exact Below.refl _ _ | assumption | refine Below.alloc ?_ (by first | (simp; done) | (simp; omega) | omega) _ | refine Below.setCell ?_ (by first | (simp; done) | (simp; omega) | omega) _ | apply Below.drew | refine Below.trans ?_ (Below.mono (by assumption) (by first | (simp; done) | (simp; omega) | omega)))) ?_; (repeat (first | go_big_quiet_skip | (go_big_quiet_want; (first | ((fail); go_big_quiet_on; simp only [Act.put, List.setIfInBounds_toArray, List.set_cons_zero, List.set_cons_succ]) | (go_big_quiet_op; (first | go_big_quiet_on | go_big_quiet_call ((fail)))))))); refine wpQuiet_nil ?_
                            intro w13 hw13
                            have HW13 := hide ((unhide HW12).keep hw13)
                            have HB13 := hide ((unhide HB12).trans (hw13.mono (unhide HB12).size))
                            clear u0 u1 u2 u3 u4 u5 u6 hw13 HW12 HB12 HF12 HO12
                            go_wp2
                            go_roundw
                            case measure => simp [intOf]; omega
                            case rel => exact ⟨p + 1, wi, W, by_, ys, fupd Ms j rM, la, be, td, by omega, by go_num, rfl, by omega, HPn2, HW13, HB13⟩
                    | true =>
                      have ST := step_told (q := apQ t sp A len cap y j) (sp := sp) (N := N) (xs := ys) (by omega) rfl hqs.1 hqs.2 (unhide HMI) (unhide HGI) (unhide HP).2.1 _ (unhide HR) rfl
                      dsimp only at ST
                      have HV := hide (show W64 rv from by have q := nextM_v (apQ t sp A len cap y j) (Ms j) (la j); rw [unhide HR] at q; exact q)
                      rcases ST with ⟨rfl, sA, sX, sM, std⟩ | ⟨rfl, std, sA, ⟨sx, sX, W', b', wq1, wq2, gI', sM⟩ | ⟨sx, sX, sM⟩⟩
                      · as_aux_lemma =>
                          have HPt : Hid (ApP sp (2 + ((S 0).size : Nat)) N ys k (apQ t sp A len cap y) W by_ wi (fupd Ms j rM) (fupd la j (ys 1)) (fupd be j wi) (fupd td j true)) := hide ⟨(unhide HP).1, (unhide HP).2.1, fun i hi => by
                            by_cases e : i = j
                            · subst e; rw [fupd_same, fupd_same, fupd_same, fupd_same]; exact sM
                            · rw [fupd_other _ _ e, fupd_other _ _ e, fupd_other _ _ e, fupd_other _ _ e]; exact (unhide HP).2.2 i hi⟩
                          have SA := hide sA
                          have SX := hide sX
                          clear sM sA sX HR HMI
                          obtain ⟨wA, wM, wL, wE, wT⟩ := unhide HW8
                          obtain ⟨⟨B', eB, hBl, hBc⟩, hIj, _⟩ := wM j hjk
                          obtain rfl : B = B' := by
                            injection eB with eB
                            injection eB with eB _ _
                          have HI := hide hIj
                          have HAr := hide wA
                          have cL := (wL.2 j hjk).1
                          have cE := (wE.2 j hjk).1
                          have cT := (wT.2 j hjk).1
                          have fL := (wL.2 j hjk).2
                          have fE := (wE.2 j hjk).2
                          have fT := (wT.2 j hjk).2
                          have hlB := wL.1
                          have hlE := wE.1
                          have hlT := wT.1
                          have hlm := hIj.1
                          (try dsimp only at cL cE cT)
                          clear wA wM wL wE wT hIj eB
                          rw [std] at cT
                          obtain ⟨n1, n2, n3, n4, n5⟩ := unhide HPn
                          obtain ⟨t1, t2, t3, t4, t5, t6, t7, t8, t9, t10, t11, t12⟩ := unhide HDs
                          go_upto_region 31 with fail
                          have HW9 : Hid (ApW ((w8.setCell ⟨Bt, j, none⟩ (.bool true)).setCell ⟨Bb, j, none⟩ (.int .i64 (wi : Nat))) g h N ys (some ⟨B, 0, none⟩) k ms (apQ t sp A len cap y) (fupd Ms j rM) Bl Bb Bt la (fupd be j wi) (fupd td j true)) := hide (by
                            have q := unhide HW8
                            have k1 : Chg (fun i => i = Bt) w8 (w8.setCell ⟨Bt, j, none⟩ (.bool true)) := Chg.set1 (Chg.refl _ _) _
                            have k2 : Chg (fun i => i = Bb) (w8.setCell ⟨Bt, j, none⟩ (.bool true)) ((w8.setCell ⟨Bt, j, none⟩ (.bool true)).setCell ⟨Bb, j, none⟩ (.int .i64 (wi : Nat))) := Chg.set1 (Chg.refl _ _) _
                            refine ⟨(q.1.chg k1 (fun e => t11 e.symm) (fun e => t12 e.symm)).chg k2 (fun e => t9 e.symm) (fun e => t10 e.symm), (q.2.1.chg k1 (fun B' e => ?_) (fun i hi => ?_)).chg k2 (fun B' e => ?_) (fun i hi => ?_), (q.2.2.1.chg k1 t5).chg k2 t4, ((q.2.2.2.1.chg k1 t6).set (i := j) _).congr (fun i hi => ?_), ((q.2.2.2.2.set (i := j) _).congr (fun i hi => ?_)).chg k2 (fun e => t6 e.symm)⟩
                            · exact ((unhide HD j hjk).2.1 B' e).2.2.2.2.2
                            · exact (unhide HD i hi).1.2.2.2.2
                            · exact ((unhide HD j hjk).2.1 B' e).2.2.2.2.1
                            · exact (unhide HD i hi).1.2.2.2.1
                            · unfold fupd; split <;> rfl
                            · unfold fupd; split <;> rfl)
                          have HX9 : Hid (Ac4 ((w8.setCell ⟨Bt, j, none⟩ (.bool true)).setCell ⟨Bb, j, none⟩ (.int .i64 (wi : Nat))) P 1 ra ro rv) := hide ((unhide HX8).chg (S := fun i => i = Bt ∨ i = Bb) (((Chg.refl _ w8).set (.inr (.inl rfl)) _).set (.inr (.inr rfl)) _) (fun e => e.elim (fun e => n3 e.symm) (fun e => n2 e.symm)))
                          have HB9 : Hid (Below w0.heap.size w0 ((w8.setCell ⟨Bt, j, none⟩ (.bool true)).setCell ⟨Bb, j, none⟩ (.int .i64 (wi : Nat)))) := hide (((unhide HB8).setCell t3 _).setCell t2 _)
                          generalize (w8.setCell ⟨Bt, j, none⟩ (.bool true)).setCell ⟨Bb, j, none⟩ (.int .i64 (wi : Nat)) = w9 at *
                          clear HI HAr cL cE cT fL fE fT hlB hlE hlT hlm hBl hBc HW8 HX8 HB8
                          obtain ⟨wA, wM, wL, wE, wT⟩ := unhide HW9
                          obtain ⟨⟨B', eB, hBl, hBc⟩, hIj, _⟩ := wM j hjk
                          obtain rfl : B = B' := by
                            injection eB with eB
                            injection eB with eB _ _
                          have HI := hide hIj
                          have HAr := hide wA
                          have cL := (wL.2 j hjk).1
                          have cE := (wE.2 j hjk).1
                          have cT := (wT.2 j hjk).1
                          have fL := (wL.2 j hjk).2
                          have fE := (wE.2 j hjk).2
                          have fT := (wT.2 j hjk).2
                          have hlB := wL.1
                          have hlE := wE.1
                          have hlT := wT.1
                          have hlm := hIj.1
                          (try dsimp only at cL cE cT)
                          clear wA wM wL wE wT hIj eB
                          obtain ⟨_, x0, x1, x2, x3⟩ := unhide HX9
                          have D := do_any g h N ys 1 ra ro rv w9 (unhide HAr)
                          rw [unhide SA, unhide SX] at D
                          go_wp2_with fail
                          refine D.mono ?_
                          rintro en w10 ⟨rfl, hg10, hA10⟩
                          have hC10 : Chg (fun i => i = h) w9 w10 := Chg.gr hg10 rfl
                          have hz9 := (unhide HB9).size
                          have hhw9 := (unhide HAr).2.2.1
                          have HW10 : Hid (ApW w10 g h N ys (some ⟨B, 0, none⟩) k ms (apQ t sp A len cap y) (fupd Ms j rM) Bl Bb Bt la (fupd be j wi) (fupd td j true)) := hide (by
                            have q := unhide HW9
                            exact ⟨hA10, q.2.1.chg hC10 (fun B' e => ((unhide HD j hjk).2.1 B' e).2.2.1) (fun i hi => (unhide HD i hi).1.2.1), q.2.2.1.chg hC10 t8, q.2.2.2.1.chg hC10 t10, q.2.2.2.2.chg hC10 t12⟩)
                          have HX10 := hide ((unhide HX9).chg hC10 (fun e => n5 e.symm))
                          have HB10 := hide ((unhide HB9).trans (hC10.below (n := w0.heap.size) (fun i e => by subst e; exact unhide HHW) hz9))
                          clear HI HAr cL cE cT fL fE fT hlB hlE hlT hlm hBl hBc x0 x1 x2 x3 D hg10 hA10 hC10 HW9 HX9 HB9 hz9 hhw9 SA SX
                          obtain ⟨wA, wM, wL, wE, wT⟩ := unhide HW10
                          obtain ⟨⟨B', eB, hBl, hBc⟩, hIj, _⟩ := wM j hjk
                          obtain rfl : B = B' := by
                            injection eB with eB
                            injection eB with eB _ _
                          have HI := hide hIj
                          have HAr := hide wA
                          have cL := (wL.2 j hjk).1
                          have cE := (wE.2 j hjk).1
                          have cT := (wT.2 j hjk).1
                          have fL := (wL.2 j hjk).2
                          have fE := (wE.2 j hjk).2
                          have fT := (wT.2 j hjk).2
                          have hlB := wL.1
                          have hlE := wE.1
                          have hlT := wT.1
                          have hlm := hIj.1
                          (try dsimp only at cL cE cT)
                          clear wA wM wL wE wT hIj eB
                          go_upto_region 32 with fail
                          have HW11 : Hid (ApW (w10.setCell ⟨Bl, j, none⟩ (.int .u64 (ys 1))) g h N ys (some ⟨B, 0, none⟩) k ms (apQ t sp A len cap y) (fupd Ms j rM) Bl Bb Bt (fupd la j (ys 1)) (fupd be j wi) (fupd td j true)) := hide (by
                            have q := unhide HW10
                            have k1 : Chg (fun i => i = Bl) w10 (w10.setCell ⟨Bl, j, none⟩ (.int .u64 (ys 1))) := Chg.set1 (Chg.refl _ _) _
                            refine ⟨q.1.chg k1 (fun e => t7 e.symm) (fun e => t8 e.symm), q.2.1.chg k1 (fun B' e => ?_) (fun i hi => ?_), (q.2.2.1.set (i := j) _).congr (fun i hi => ?_), q.2.2.2.1.chg k1 (fun e => t4 e.symm), q.2.2.2.2.chg k1 (fun e => t5 e.symm)⟩
                            · exact ((unhide HD j hjk).2.1 B' e).2.2.2.1
                            · exact (unhide HD i hi).1.2.2.1
                            · unfold fupd; split <;> rfl)
                          have HX11 := hide ((unhide HX10).chg (Chg.set1 (Chg.refl (fun i => i = Bl) w10) (.int .u64 (ys 1)) (i := j)) (fun e => n1 e.symm))
                          have HB11 := hide ((unhide HB10).setCell (p := ⟨Bl, j, none⟩) t1 (.int .u64 (ys 1)))
                          generalize w10.setCell ⟨Bl, j, none⟩ (.int .u64 (ys 1)) = w11 at *
                          clear HI HAr cL cE cT fL fE fT hlB hlE hlT hlm hBl hBc HW10 HX10 HB10
                          obtain ⟨wA, wM, wL, wE, wT⟩ := unhide HW11
                          obtain ⟨⟨B', eB, hBl, hBc⟩, hIj, _⟩ := wM j hjk
                          obtain rfl : B = B' := by
                            injection eB with eB
                            injection eB with eB _ _
                          have HI := hide hIj
                          have HAr := hide wA
                          have cL := (wL.2 j hjk).1
                          have cE := (wE.2 j hjk).1
                          have cT := (wT.2 j hjk).1
                          have fL := (wL.2 j hjk).2
                          have fE := (wE.2 j hjk).2
                          have fT := (wT.2 j hjk).2
                          have hlB := wL.1
                          have hlE := wE.1
                          have hlT := wT.1
                          have hlm := hIj.1
                          (try dsimp only at cL cE cT)
                          clear wA wM wL wE wT hIj eB
                          rw [fupd_same] at cL
                          have u0 : ∀ v : Later w11, v.val.cell? ⟨P, 0, none⟩ = some (.int .i64 1) := Later.cell (unhide HX11).1 (unhide HX11).2.1
                          have u1 : ∀ v : Later w11, v.val.cell? ⟨P, 2, none⟩ = some (.int .u64 ro) := Later.cell (unhide HX11).1 (unhide HX11).2.2.2.1
                          have u2 : ∀ v : Later w11, v.val.cell? ⟨Bl, j, none⟩ = some (.int .u64 (ys 1)) := Later.cell hlB cL
                          clear HI HAr cL cE cT fL fE fT hlB hlE hlT hlm hBl hBc
                          refine wp_region_later w11 (by kernel_rfl) (by kernel_rfl) (by repeat (first | exact Below.refl _ _ | assumption | refine Below.alloc ?_ (by first | (simp; done) | (simp; omega) | omega) _ | refine Below.setCell ?_ (by first | (simp; done) | (simp; omega) | omega) _ | apply Below.drew | refine Below.trans ?_ (Below.mono (by assumption) (by first | (simp; done) | (simp; omega) | omega)))) ?_; (repeat (first | go_big_quiet_skip | (go_big_quiet_want; (first | ((fail); go_big_quiet_on; simp only [Act.put, List.setIfInBounds_toArray, List.set_cons_zero, List.set_cons_succ]) | (go_big_quiet_op; (first | go_big_quiet_on | go_big_quiet_call ((fail)))))))); refine wpQuiet_nil ?_
                          intro w12 hw12
                          have HW12 := hide ((unhide HW11).keep hw12)
                          have HB12 := hide ((unhide HB11).trans (hw12.mono (unhide HB11).size))
                          clear u0 u1 u2 hw12 HW11 HB11 HX11
                          go_wp2
                          go_roundw
                          case measure => simp [intOf]; omega
                          case rel => exact ⟨p + 1, wi, _, _, _, _, _, _, _, by omega, by go_num, rfl, by omega, HPt, HW12, HB12⟩
                      · as_aux_lemma =>
                          have HPt : Hid (ApP sp (2 + ((S 0).size : Nat)) N (upd ys 1 rv) k (apQ t sp A len cap y) W' b' (wi + 1) (fupd Ms j rM) (fupd la j (ys 1)) be td) := hide ⟨by rw [show upd ys 1 rv 1 = rv by unfold upd; rw [if_pos rfl]]; exact gI', all64_upd (unhide HP).2.1 1 (unhide HV), fun i hi => by
                            by_cases e : i = j
                            · subst e; rw [fupd_same, fupd_same, std]; exact sM
                            · rw [fupd_other _ _ e, fupd_other _ _ e]; exact ((unhide HP).2.2 i hi).more (Nat.le_succ _) wq1 wq2⟩
                          have SA := hide sA
                          have SX := hide sX
                          have m2 : (ys 1 == ro) = true := by simpa using sx
                          clear sM sA sX HR HMI sx gI' wq1 wq2
                          obtain ⟨wA, wM, wL, wE, wT⟩ := unhide HW8
                          obtain ⟨⟨B', eB, hBl, hBc⟩, hIj, _⟩ := wM j hjk
                          obtain rfl : B = B' := by
                            injection eB with eB
                            injection eB with eB _ _
                          have HI := hide hIj
                          have HAr := hide wA
                          have cL := (wL.2 j hjk).1
                          have cE := (wE.2 j hjk).1
                          have cT := (wT.2 j hjk).1
                          have fL := (wL.2 j hjk).2
                          have fE := (wE.2 j hjk).2
                          have fT := (wT.2 j hjk).2
                          have hlB := wL.1
                          have hlE := wE.1
                          have hlT := wT.1
                          have hlm := hIj.1
                          (try dsimp only at cL cE cT)
                          clear wA wM wL wE wT hIj eB
                          rw [std] at cT
                          obtain ⟨n1, n2, n3, n4, n5⟩ := unhide HPn
                          obtain ⟨t1, t2, t3, t4, t5, t6, t7, t8, t9, t10, t11, t12⟩ := unhide HDs
                          go_upto_region 31 with fail
                          have HW9 := HW8
                          have HX9 := HX8
                          have HB9 := HB8
                          obtain ⟨w9, hw9⟩ : ∃ w9, w9 = w8 := ⟨_, rfl⟩
                          subst hw9
                          clear HI HAr cL cE cT fL fE fT hlB hlE hlT hlm hBl hBc HW8 HX8 HB8
                          obtain ⟨wA, wM, wL, wE, wT⟩ := unhide HW9
                          obtain ⟨⟨B', eB, hBl, hBc⟩, hIj, _⟩ := wM j hjk
                          obtain rfl : B = B' := by
                            injection eB with eB
                            injection eB with eB _ _
                          have HI := hide hIj
                          have HAr := hide wA
                          have cL := (wL.2 j hjk).1
                          have cE := (wE.2 j hjk).1
                          have cT := (wT.2 j hjk).1
                          have fL := (wL.2 j hjk).2
                          have fE := (wE.2 j hjk).2
                          have fT := (wT.2 j hjk).2
                          have hlB := wL.1
                          have hlE := wE.1
                          have hlT := wT.1
                          have hlm := hIj.1
                          (try dsimp only at cL cE cT)
                          clear wA wM wL wE wT hIj eB
                          obtain ⟨_, x0, x1, x2, x3⟩ := unhide HX9
                          have D := do_any g h N ys 3 ra ro rv w9 (unhide HAr)
                          rw [unhide SA, unhide SX] at D
                          go_wp2_with fail
                          refine D.mono ?_
                          rintro en w10 ⟨rfl, hg10, hA10⟩
                          have hC10 : Chg (fun i => i = h) w9 w10 := Chg.gr hg10 rfl
                          have hz9 := (unhide HB9).size
                          have hhw9 := (unhide HAr).2.2.1
                          have HW10 : Hid (ApW w10 g h N (upd ys 1 rv) (some ⟨B, 0, none⟩) k ms (apQ t sp A len cap y) (fupd Ms j rM) Bl Bb Bt la (be) (td)) := hide (by
                            have q := unhide HW9
                            exact ⟨hA10, q.2.1.chg hC10 (fun B' e => ((unhide HD j hjk).2.1 B' e).2.2.1) (fun i hi => (unhide HD i hi).1.2.1), q.2.2.1.chg hC10 t8, q.2.2.2.1.chg hC10 t10, q.2.2.2.2.chg hC10 t12⟩)
                          have HX10 := hide ((unhide HX9).chg hC10 (fun e => n5 e.symm))
                          have HB10 := hide ((unhide HB9).trans (hC10.below (n := w0.heap.size) (fun i e => by subst e; exact unhide HHW) hz9))
                          clear HI HAr cL cE cT fL fE fT hlB hlE hlT hlm hBl hBc x0 x1 x2 x3 D hg10 hA10 hC10 HW9 HX9 HB9 hz9 hhw9 SA SX
                          obtain ⟨wA, wM, wL, wE, wT⟩ := unhide HW10
                          obtain ⟨⟨B', eB, hBl, hBc⟩, hIj, _⟩ := wM j hjk
                          obtain rfl : B = B' := by
                            injection eB with eB
                            injection eB with eB _ _
                          have HI := hide hIj
                          have HAr := hide wA
                          have cL := (wL.2 j hjk).1
                          have cE := (wE.2 j hjk).1
                          have cT := (wT.2 j hjk).1
                          have fL := (wL.2 j hjk).2
                          have fE := (wE.2 j hjk).2
                          have fT := (wT.2 j hjk).2
                          have hlB := wL.1
                          have hlE := wE.1
                          have hlT := wT.1
                          have hlm := hIj.1
                          (try dsimp only at cL cE cT)
                          clear wA wM wL wE wT hIj eB
                          go_upto_region 32 with fail
                          have HW11 : Hid (ApW (w10.setCell ⟨Bl, j, none⟩ (.int .u64 (ys 1))) g h N (upd ys 1 rv) (some ⟨B, 0, none⟩) k ms (apQ t sp A len cap y) (fupd Ms j rM) Bl Bb Bt (fupd la j (ys 1)) (be) (td)) := hide (by
                            have q := unhide HW10
                            have k1 : Chg (fun i => i = Bl) w10 (w10.setCell ⟨Bl, j, none⟩ (.int .u64 (ys 1))) := Chg.set1 (Chg.refl _ _) _
                            refine ⟨q.1.chg k1 (fun e => t7 e.symm) (fun e => t8 e.symm), q.2.1.chg k1 (fun B' e => ?_) (fun i hi => ?_), (q.2.2.1.set (i := j) _).congr (fun i hi => ?_), q.2.2.2.1.chg k1 (fun e => t4 e.symm), q.2.2.2.2.chg k1 (fun e => t5 e.symm)⟩
                            · exact ((unhide HD j hjk).2.1 B' e).2.2.2.1
                            · exact (unhide HD i hi).1.2.2.1
                            · unfold fupd; split <;> rfl)
                          have HX11 := hide ((unhide HX10).chg (Chg.set1 (Chg.refl (fun i => i = Bl) w10) (.int .u64 (ys 1)) (i := j)) (fun e => n1 e.symm))
                          have HB11 := hide ((unhide HB10).setCell (p := ⟨Bl, j, none⟩) t1 (.int .u64 (ys 1)))
                          generalize w10.setCell ⟨Bl, j, none⟩ (.int .u64 (ys 1)) = w11 at *
                          clear HI HAr cL cE cT fL fE fT hlB hlE hlT hlm hBl hBc HW10 HX10 HB10
                          obtain ⟨wA, wM, wL, wE, wT⟩ := unhide HW11
                          obtain ⟨⟨B', eB, hBl, hBc⟩, hIj, _⟩ := wM j hjk
                          obtain rfl : B = B' := by
                            injection eB with eB
                            injection eB with eB _ _
                          have HI := hide hIj
                          have HAr := hide wA
                          have cL := (wL.2 j hjk).1
                          have cE := (wE.2 j hjk).1
                          have cT := (wT.2 j hjk).1
                          have fL := (wL.2 j hjk).2
                          have fE := (wE.2 j hjk).2
                          have fT := (wT.2 j hjk).2
                          have hlB := wL.1
                          have hlE := wE.1
                          have hlT := wT.1
                          have hlm := hIj.1
                          (try dsimp only at cL cE cT)
                          clear wA wM wL wE wT hIj eB
                          rw [fupd_same] at cL
                          have u0 : ∀ v : Later w11, v.val.cell? ⟨P, 0, none⟩ = some (.int .i64 3) := Later.cell (unhide HX11).1 (unhide HX11).2.1
                          have u1 : ∀ v : Later w11, v.val.cell? ⟨P, 2, none⟩ = some (.int .u64 ro) := Later.cell (unhide HX11).1 (unhide HX11).2.2.2.1
                          have u2 : ∀ v : Later w11, v.val.cell? ⟨Bl, j, none⟩ = some (.int .u64 (ys 1)) := Later.cell hlB cL
                          clear HI HAr cL cE cT fL fE fT hlB hlE hlT hlm hBl hBc
                          refine wp_region_later w11 (by kernel_rfl) (by kernel_rfl) (by repeat (first | exact Below.refl _ _ | assumption | refine Below.alloc ?_ (by first | (simp; done) | (simp; omega) | omega) _ | refine Below.setCell ?_ (by first | (simp; done) | (simp; omega) | omega) _ | apply Below.drew | refine Below.trans ?_ (Below.mono (by assumption) (by first | (simp; done) | (simp; omega) | omega)))) ?_; (repeat (first | go_big_quiet_skip | (go_big_quiet_want; (first | ((fail); go_big_quiet_on; simp only [Act.put, List.setIfInBounds_toArray, List.set_cons_zero, List.set_cons_succ]) | (go_big_quiet_op; (first | go_big_quiet_on | go_big_quiet_call ((fail)))))))); refine wpQuiet_nil ?_
                          intro w12 hw12
                          have HW12 := hide ((unhide HW11).keep hw12)
                          have HB12 := hide ((unhide HB11).trans (hw12.mono (unhide HB11).size))
                          clear u0 u1 u2 hw12 HW11 HB11 HX11
                          go_wp2
                          go_roundw
                          case measure => simp [intOf]; omega
                          case rel => exact ⟨p + 1, wi + 1, _, _, _, _, _, _, _, by omega, by go_num, by go_num, by omega, HPt, HW12, HB12⟩
                      · as_aux_lemma =>
                          have HPt : Hid (ApP sp (2 + ((S 0).size : Nat)) N ys k (apQ t sp A len cap y) W by_ wi (fupd Ms j rM) (fupd la j (ys 1)) be td) := hide ⟨(unhide HP).1, (unhide HP).2.1, fun i hi => by
                            by_cases e : i = j
                            · subst e; rw [fupd_same, fupd_same, std]; exact sM
                            · rw [fupd_other _ _ e, fupd_other _ _ e]; exact (unhide HP).2.2 i hi⟩
                          have SA := hide sA
                          have SX := hide sX
                          have m2 : (ys 1 == ro) = false := by simpa using sx
                          clear sM sA sX HR HMI sx
                          obtain ⟨wA, wM, wL, wE, wT⟩ := unhide HW8
                          obtain ⟨⟨B', eB, hBl, hBc⟩, hIj, _⟩ := wM j hjk
                          obtain rfl : B = B' := by
                            injection eB with eB
                            injection eB with eB _ _
                          have HI := hide hIj
                          have HAr := hide wA
                          have cL := (wL.2 j hjk).1
                          have cE := (wE.2 j hjk).1
                          have cT := (wT.2 j hjk).1
                          have fL := (wL.2 j hjk).2
                          have fE := (wE.2 j hjk).2
                          have fT := (wT.2 j hjk).2
                          have hlB := wL.1
                          have hlE := wE.1
                          have hlT := wT.1
                          have hlm := hIj.1
                          (try dsimp only at cL cE cT)
                          clear wA wM wL wE wT hIj eB
                          rw [std] at cT
                          obtain ⟨n1, n2, n3, n4, n5⟩ := unhide HPn
                          obtain ⟨t1, t2, t3, t4, t5, t6, t7, t8, t9, t10, t11, t12⟩ := unhide HDs
                          go_upto_region 31 with fail
                          have HW9 := HW8
                          have HX9 := HX8
                          have HB9 := HB8
                          obtain ⟨w9, hw9⟩ : ∃ w9, w9 = w8 := ⟨_, rfl⟩
                          subst hw9
                          clear HI HAr cL cE cT fL fE fT hlB hlE hlT hlm hBl hBc HW8 HX8 HB8
                          obtain ⟨wA, wM, wL, wE, wT⟩ := unhide HW9
                          obtain ⟨⟨B', eB, hBl, hBc⟩, hIj, _⟩ := wM j hjk
                          obtain rfl : B = B' := by
                            injection eB with eB
                            injection eB with eB _ _
                          have HI := hide hIj
                          have HAr := hide wA
                          have cL := (wL.2 j hjk).1
                          have cE := (wE.2 j hjk).1
                          have cT := (wT.2 j hjk).1
                          have fL := (wL.2 j hjk).2
                          have fE := (wE.2 j hjk).2
                          have fT := (wT.2 j hjk).2
                          have hlB := wL.1
                          have hlE := wE.1
                          have hlT := wT.1
                          have hlm := hIj.1
                          (try dsimp only at cL cE cT)
                          clear wA wM wL wE wT hIj eB
                          obtain ⟨_, x0, x1, x2, x3⟩ := unhide HX9
                          have D := do_any g h N ys 3 ra ro rv w9 (unhide HAr)
                          rw [unhide SA, unhide SX] at D
                          go_wp2_with fail
                          refine D.mono ?_
                          rintro en w10 ⟨rfl, hg10, hA10⟩
                          have hC10 : Chg (fun i => i = h) w9 w10 := Chg.gr hg10 rfl
                          have hz9 := (unhide HB9).size
                          have hhw9 := (unhide HAr).2.2.1
                          have HW10 : Hid (ApW w10 g h N ys (some ⟨B, 0, none⟩) k ms (apQ t sp A len cap y) (fupd Ms j rM) Bl Bb Bt la (be) (td)) := hide (by
                            have q := unhide HW9
                            exact ⟨hA10, q.2.1.chg hC10 (fun B' e => ((unhide HD j hjk).2.1 B' e).2.2.1) (fun i hi => (unhide HD i hi).1.2.1), q.2.2.1.chg hC10 t8, q.2.2.2.1.chg hC10 t10, q.2.2.2.2.chg hC10 t12⟩)
                          have HX10 := hide ((unhide HX9).chg hC10 (fun e => n5 e.symm))
                          have HB10 := hide ((unhide HB9).trans (hC10.below (n := w0.heap.size) (fun i e => by subst e; exact unhide HHW) hz9))
                          clear HI HAr cL cE cT fL fE fT hlB hlE hlT hlm hBl hBc x0 x1 x2 x3 D hg10 hA10 hC10 HW9 HX9 HB9 hz9 hhw9 SA SX
                          obtain ⟨wA, wM, wL, wE, wT⟩ := unhide HW10
                          obtain ⟨⟨B', eB, hBl, hBc⟩, hIj, _⟩ := wM j hjk
                          obtain rfl : B = B' := by
                            injection eB with eB
                            injection eB with eB _ _
                          have HI := hide hIj
                          have HAr := hide wA
                          have cL := (wL.2 j hjk).1
                          have cE := (wE.2 j hjk).1
                          have cT := (wT.2 j hjk).1
                          have fL := (wL.2 j hjk).2
                          have fE := (wE.2 j hjk).2
                          have fT := (wT.2 j hjk).2
                          have hlB := wL.1
                          have hlE := wE.1
                          have hlT := wT.1
                          have hlm := hIj.1
                          (try dsimp only at cL cE cT)
                          clear wA wM wL wE wT hIj eB
                          go_upto_region 32 with fail
                          have HW11 : Hid (ApW (w10.setCell ⟨Bl, j, none⟩ (.int .u64 (ys 1))) g h N ys (some ⟨B, 0, none⟩) k ms (apQ t sp A len cap y) (fupd Ms j rM) Bl Bb Bt (fupd la j (ys 1)) (be) (td)) := hide (by
                            have q := unhide HW10
                            have k1 : Chg (fun i => i = Bl) w10 (w10.setCell ⟨Bl, j, none⟩ (.int .u64 (ys 1))) := Chg.set1 (Chg.refl _ _) _
                            refine ⟨q.1.chg k1 (fun e => t7 e.symm) (fun e => t8 e.symm), q.2.1.chg k1 (fun B' e => ?_) (fun i hi => ?_), (q.2.2.1.set (i := j) _).congr (fun i hi => ?_), q.2.2.2.1.chg k1 (fun e => t4 e.symm), q.2.2.2.2.chg k1 (fun e => t5 e.symm)⟩
                            · exact ((unhide HD j hjk).2.1 B' e).2.2.2.1
                            · exact (unhide HD i hi).1.2.2.1
                            · unfold fupd; split <;> rfl)
                          have HX11 := hide ((unhide HX10).chg (Chg.set1 (Chg.refl (fun i => i = Bl) w10) (.int .u64 (ys 1)) (i := j)) (fun e => n1 e.symm))
                          have HB11 := hide ((unhide HB10).setCell (p := ⟨Bl, j, none⟩) t1 (.int .u64 (ys 1)))
                          generalize w10.setCell ⟨Bl, j, none⟩ (.int .u64 (ys 1)) = w11 at *
                          clear HI HAr cL cE cT fL fE fT hlB hlE hlT hlm hBl hBc HW10 HX10 HB10
                          obtain ⟨wA, wM, wL, wE, wT⟩ := unhide HW11
                          obtain ⟨⟨B', eB, hBl, hBc⟩, hIj, _⟩ := wM j hjk
                          obtain rfl : B = B' := by
                            injection eB with eB
                            injection eB with eB _ _
                          have HI := hide hIj
                          have HAr := hide wA
                          have cL := (wL.2 j hjk).1
                          have cE := (wE.2 j hjk).1
                          have cT := (wT.2 j hjk).1
                          have fL := (wL.2 j hjk).2
                          have fE := (wE.2 j hjk).2
                          have fT := (wT.2 j hjk).2
                          have hlB := wL.1
                          have hlE := wE.1
                          have hlT := wT.1
                          have hlm := hIj.1
                          (try dsimp only at cL cE cT)
                          clear wA wM wL wE wT hIj eB
                          rw [fupd_same] at cL
                          have u0 : ∀ v : Later w11, v.val.cell? ⟨P, 0, none⟩ = some (.int .i64 3) := Later.cell (unhide HX11).1 (unhide HX11).2.1
                          have u1 : ∀ v : Later w11, v.val.cell? ⟨P, 2, none⟩ = some (.int .u64 ro) := Later.cell (unhide HX11).1 (unhide HX11).2.2.2.1
                          have u2 : ∀ v : Later w11, v.val.cell? ⟨Bl, j, none⟩ = some (.int .u64 (ys 1)) := Later.cell hlB cL
                          clear HI HAr cL cE cT fL fE fT hlB hlE hlT hlm hBl hBc
                          refine wp_region_later w11 (by kernel_rfl) (by kernel_rfl) (by repeat (first | exact Below.refl _ _ | assumption | refine Below.alloc ?_ (by first | (simp; done) | (simp; omega) | omega) _ | refine Below.setCell ?_ (by first | (simp; done) | (simp; omega) | omega) _ | apply Below.drew | refine Below.trans ?_ (Below.mono (by assumption) (by first | (simp; done) | (simp; omega) | omega)))) ?_; (repeat (first | go_big_quiet_skip | (go_big_quiet_want; (first | ((fail); go_big_quiet_on; simp only [Act.put, List.setIfInBounds_toArray, List.set_cons_zero, List.set_cons_succ]) | (go_big_quiet_op; (first | go_big_quiet_on | go_big_quiet_call ((fail)))))))); refine wpQuiet_nil ?_
                          intro w12 hw12
                          have HW12 := hide ((unhide HW11).keep hw12)
                          have HB12 := hide ((unhide HB11).trans (hw12.mono (unhide HB11).size))
                          clear u0 u1 u2 hw12 HW11 HB11 HX11
                          go_wp2
                          go_roundw
                          case measure => simp [intOf]; omega
                          case rel => exact ⟨p + 1, wi, _, _, _, _, _, _, _, by omega, by go_num, rfl, by omega, HPt, HW12, HB12⟩
                · obtain rfl : p = len3 := by omega
                  have HFin : Hid (FinOk t sp (2 + ((S 0).size : Nat)) k Ms) := hide (fin_of (unhide HP) (fun j hj => ⟨rfl, rfl, (unhide HQ j hj).1⟩) (by omega))
                  have HBB := unhide HB
                  obtain ⟨_, p0, p1, p2⟩ := (unhide HPw0).keep HBB
                  have CAp := hide (apart_any t sp A len cap S Av k C ms (apQ t sp A len cap y) Ms wr (unhide HP0) ((unhide HS').keep HBB) hl2 hLC (unhide HW).2.1 (unhide HFin))
                  have HBf := hide ((unhide HBw0).trans (HBB.mono (unhide HBw0).size))
                  clear HFin HBB HP HW HB
                  go_wp2_with fail
                  refine (unhide CAp).mono ?_
                  rintro en w6 ⟨rfl, hw6⟩
                  have B6 := (unhide HBf).trans (hw6.mono (unhide HBf).size)
                  clear p0 p1 p2 hw6
                  go_wp2_with fail
                  refine (works14_any _).mono ?_
                  rintro en w7 ⟨rfl, hw7⟩
                  have B7 := B6.trans (hw7.mono B6.size)
                  go_wp2
                  go_ret
                  exact ⟨rfl, B7⟩
end Go.Proofs.Ytnnllhlcpmmcaaa
