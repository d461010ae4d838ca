/- The walk of GraphHolds: it returns true. -/
import Derived.Test.YtbkaopeajjechaaGsI
import Derived.Test.YtbkaopeajjechaaGhA
namespace Go.Proofs.Ytbkaopeajjechaa
set_option linter.unusedVariables false
set_option linter.unusedSimpArgs false
open Go.RowKit Go.Maps

set_option maxRecDepth 100000 in
set_option maxHeartbeats 8000000 in
theorem holds_bad (t sp : Int) (A : Option Addr) (len cap : Nat) (B : Option Addr) (n bc : Nat) (hn : n ≤ 9223372036854775807) (hlen : len ≤ 9223372036854775807) (a0 a1 a2 a3 a4 a5 a6 a7 a8 : Int) (S : Nat → ByteArray) (w : World) (H : ShOk w A len S) (hS : ∀ i, i < len → (S i).size ≤ maxLen) (hno : okPB t sp len S = false) :
    Calls Try.prog 3 #[.agg #[.int .i64 t, .int .i64 sp, .slice A len cap], .slice B n bc, .agg #[.int .i64 a0, .int .i64 a1, .int .i64 a2, .int .i64 a3, .int .i64 a4, .int .i64 a5, .int .i64 a6, .int .i64 a7, .int .i64 a8]] w fun e w' => e = .returned (.bool true) ∧ Below w.heap.size w w' := by
  have cf := hide (fun W (hW : Below w.heap.size w W) => few_any t sp A len cap S B n bc 40 hn (by omega) hlen W (H.keep hW) hS)
  have cn := hide (fun W (hW : Below w.heap.size w W) => new_no t A cap W (H.keep hW) hlen (fun i hi => by have := hS i hi; unfold maxLen at this; omega) hno)
  clear hS H hno hn hlen
  generalize fewB len S n 40 = b at *
  go_enter Try.func3, Try.ntmps3
  go_wp2_with fail
  refine (unhide cn _ (by repeat (first | exact Below.refl _ _ | assumption | refine Below.alloc ?_ (by first | (simp; done) | (simp; omega) | omega) _ | refine Below.setCell ?_ (by first | (simp; done) | (simp; omega) | omega) _ | apply Below.drew | refine Below.trans ?_ (Below.mono (by assumption) (by first | (simp; done) | (simp; omega) | omega))))).mono ?_
  rintro e w1 ⟨rfl, hb1⟩
  have hw1 : Below w.heap.size w w1 := by
    refine Below.trans ?_ (hb1.mono (by simp; omega))
    repeat (first | exact Below.refl _ _ | assumption | refine Below.alloc ?_ (by first | (simp; done) | (simp; omega) | omega) _ | refine Below.setCell ?_ (by first | (simp; done) | (simp; omega) | omega) _ | apply Below.drew | refine Below.trans ?_ (Below.mono (by assumption) (by first | (simp; done) | (simp; omega) | omega)))
  have p0 : w1.cell? ⟨w.heap.size, 0, none⟩ = some (.int .i64 t) := (hb1.cell (p := ⟨w.heap.size, 0, none⟩) (by simp; omega)).trans (by go_simp)
  have p1 : w1.cell? ⟨w.heap.size, 1, none⟩ = some (.int .i64 sp) := (hb1.cell (p := ⟨w.heap.size, 1, none⟩) (by simp; omega)).trans (by go_simp)
  have p2 : w1.cell? ⟨w.heap.size, 2, none⟩ = some (.slice A len cap) := (hb1.cell (p := ⟨w.heap.size, 2, none⟩) (by simp; omega)).trans (by go_simp)
  clear hb1
  go_wp2_with fail
  refine (unhide cf _ hw1).mono ?_
  rintro e w2 ⟨rfl, hb2⟩
  have HB := hide (hw1.trans (hb2.mono hw1.size))
  clear hb2 p0 p1 p2 hw1
  cases b
  all_goals
    go_wp2_with (first | (go_at_call 12; refine (num_any _ _).mono ?_; rintro e w' ⟨rfl, rfl⟩))
    refine (works09_any _).mono ?_
    rintro e w13 ⟨rfl, hb13⟩
    go_wp2
    go_ret
    exact ⟨rfl, (unhide HB).trans (hb13.mono (unhide HB).size)⟩

set_option maxRecDepth 100000 in
set_option maxHeartbeats 8000000 in
theorem holds_many (T : Nat) (sp : Int) (A : Option Addr) (len cap : Nat) (B : Option Addr) (n bc : Nat) (hn : n ≤ 9223372036854775807) (hlen : len ≤ 9223372036854775807) (a0 a1 a2 a3 a4 a5 a6 a7 a8 : Int) (S : Nat → ByteArray) (w : World) (H : ShOk w A len S) (hS : ∀ i, i < len → (S i).size ≤ maxLen) (hok : okPB (T : Int) sp len S = true) (hno : fewB len S n 40 = false) :
    Calls Try.prog 3 #[.agg #[.int .i64 (T : Int), .int .i64 sp, .slice A len cap], .slice B n bc, .agg #[.int .i64 a0, .int .i64 a1, .int .i64 a2, .int .i64 a3, .int .i64 a4, .int .i64 a5, .int .i64 a6, .int .i64 a7, .int .i64 a8]] w fun e w' => e = .returned (.bool true) ∧ Below w.heap.size w w' := by
  have cf := hide (fun W (hW : Below w.heap.size w W) => few_any T sp A len cap S B n bc 40 hn (by omega) hlen W (H.keep hW) hS)
  rw [hno] at cf
  have cn := hide (fun W (hW : Below w.heap.size w W) => st1_new (T := T) (sp := sp) (len := len) (S := S) (cap := cap) (Below.refl _ W) (H.keep hW) hok)
  clear hS H hno hn hlen hok
  go_enter Try.func3, Try.ntmps3
  go_wp2_with fail
  refine (unhide cn _ (by repeat (first | exact Below.refl _ _ | assumption | refine Below.alloc ?_ (by first | (simp; done) | (simp; omega) | omega) _ | refine Below.setCell ?_ (by first | (simp; done) | (simp; omega) | omega) _ | apply Below.drew | refine Below.trans ?_ (Below.mono (by assumption) (by first | (simp; done) | (simp; omega) | omega))))).mono ?_
  rintro e w1 ⟨g, rfl, h1⟩
  have hb1 := St.b h1
  clear h1
  have hw1 : Below w.heap.size w w1 := by
    refine Below.trans ?_ (hb1.mono (by simp; omega))
    repeat (first | exact Below.refl _ _ | assumption | refine Below.alloc ?_ (by first | (simp; done) | (simp; omega) | omega) _ | refine Below.setCell ?_ (by first | (simp; done) | (simp; omega) | omega) _ | apply Below.drew | refine Below.trans ?_ (Below.mono (by assumption) (by first | (simp; done) | (simp; omega) | omega)))
  have p0 : w1.cell? ⟨w.heap.size, 0, none⟩ = some (.int .i64 (T : Int)) := (hb1.cell (p := ⟨w.heap.size, 0, none⟩) (by simp; omega)).trans (by go_simp)
  have p1 : w1.cell? ⟨w.heap.size, 1, none⟩ = some (.int .i64 sp) := (hb1.cell (p := ⟨w.heap.size, 1, none⟩) (by simp; omega)).trans (by go_simp)
  have p2 : w1.cell? ⟨w.heap.size, 2, none⟩ = some (.slice A len cap) := (hb1.cell (p := ⟨w.heap.size, 2, none⟩) (by simp; omega)).trans (by go_simp)
  clear hb1
  go_wp2_with fail
  refine (unhide cf _ hw1).mono ?_
  rintro e w2 ⟨rfl, hb2⟩
  have HB := hide (hw1.trans (hb2.mono hw1.size))
  clear hb2 p0 p1 p2 hw1
  go_wp2_with fail
  refine (works09_any _).mono ?_
  rintro e w13 ⟨rfl, hb13⟩
  go_wp2
  go_ret
  exact ⟨rfl, (unhide HB).trans (hb13.mono (unhide HB).size)⟩

set_option maxRecDepth 100000 in
set_option maxHeartbeats 8000000 in
theorem holds_ok (T : Nat) (sp : Int) (A : Option Addr) (len cap : Nat) (B : Option Addr) (n bc : Nat) (hn : n ≤ 9223372036854775807) (hlen : len ≤ 9223372036854775807) (a0 a1 a2 a3 a4 a5 a6 a7 a8 : Int) (S : Nat → ByteArray) (zv : Nat → Nat → Int) (w : World) (H : ShOk w A len S) (hS : ∀ i, i < len → (S i).size ≤ maxLen) (HA : Hid (ActOk w B n zv))
    (hf : fewB len S n 40 = true) (hok : okPB (T : Int) sp len S = true) :
    Calls Try.prog 3 #[.agg #[.int .i64 (T : Int), .int .i64 sp, .slice A len cap], .slice B n bc, .agg #[.int .i64 a0, .int .i64 a1, .int .i64 a2, .int .i64 a3, .int .i64 a4, .int .i64 a5, .int .i64 a6, .int .i64 a7, .int .i64 a8]] w fun e w' => e = .returned (.bool true) ∧ Below w.heap.size w w' := by
  have hn40 := (fewB_iff.1 hf).1
  have cf := hide (fun W (hW : Below w.heap.size w W) => few_any T sp A len cap S B n bc 40 hn (by omega) hlen W (H.keep hW) hS)
  rw [hf] at cf
  have HH := hide (fun W (hW : Below w.heap.size w W) => H.keep hW)
  have HOK := hide hok
  clear hf hok hS H hn hlen
  go_enter Try.func3, Try.ntmps3
  go_wp2_with fail
  refine calls_gen ?_
  intro w0 hw0
  have hB0 : Below w.heap.size w w0 := by rw [hw0]; repeat (first | exact Below.refl _ _ | assumption | refine Below.alloc ?_ (by first | (simp; done) | (simp; omega) | omega) _ | refine Below.setCell ?_ (by first | (simp; done) | (simp; omega) | omega) _ | apply Below.drew | refine Below.trans ?_ (Below.mono (by assumption) (by first | (simp; done) | (simp; omega) | omega)))
  have hz0 : w0.heap.size = w.heap.size + 2 := by rw [hw0]; simp
  have x0 : ∀ W, Below w0.heap.size w0 W → W.cell? ⟨w.heap.size, 0, none⟩ = some (.int .i64 (T : Int)) ∧ W.cell? ⟨w.heap.size, 1, none⟩ = some (.int .i64 sp) ∧ W.cell? ⟨w.heap.size, 2, none⟩ = some (.slice A len cap) := fun W hW => by
    have h : ∀ j, W.cell? ⟨w.heap.size, j, none⟩ = w0.cell? ⟨w.heap.size, j, none⟩ := fun j => hW.cell (p := ⟨w.heap.size, j, none⟩) (by show w.heap.size < _; omega)
    rw [h, h, h, hw0]
    refine ⟨?_, ?_, ?_⟩ <;> go_simp
  have x1 : ∀ W, Below w0.heap.size w0 W → ∀ j, j < 9 → W.cell? ⟨w.heap.size + 1, j, none⟩ = (#[Value.int .i64 a0, .int .i64 a1, .int .i64 a2, .int .i64 a3, .int .i64 a4, .int .i64 a5, .int .i64 a6, .int .i64 a7, .int .i64 a8] : Array Value)[j]? := fun W hW j hj => by
    have h : W.cell? ⟨w.heap.size + 1, j, none⟩ = w0.cell? ⟨w.heap.size + 1, j, none⟩ := hW.cell (p := ⟨w.heap.size + 1, j, none⟩) (by show w.heap.size + 1 < _; omega)
    rw [h, hw0, Lib.cell_of_heap (by
      have := (MapKept.heap_alloc (w.alloc (.cells #[.int .i64 (T : Int), .int .i64 sp, .slice A len cap] 24)) (.cells #[.int .i64 a0, .int .i64 a1, .int .i64 a2, .int .i64 a3, .int .i64 a4, .int .i64 a5, .int .i64 a6, .int .i64 a7, .int .i64 a8] 30)).1
      rw [World.size_alloc] at this
      exact this)]
  have HX0 := hide x0
  have HX1 := hide x1
  clear hw0 x0 x1
  refine (st1_new (T := T) (sp := sp) (len := len) (S := S) (Below.refl _ _) (unhide HH _ hB0) (unhide HOK)).mono ?_
  rintro e w1 ⟨g, rfl, h1⟩
  have H1 := hide h1
  have hb1 := St.b h1
  obtain ⟨p0, p1, p2⟩ := unhide HX0 w1 hb1
  clear h1
  go_wp2_with fail
  refine (unhide cf w1 (hB0.trans (hb1.mono (by omega)))).mono ?_
  rintro e w2 ⟨rfl, hb2⟩
  have H2 := hide (St.below (unhide H1) hb2)
  clear hb2 H1 hb1 p0 p1 p2
  go_wp2_with (first | (go_at_call 12; refine (num_any _ _).mono ?_; rintro e w' ⟨rfl, rfl⟩))
  go_loopw [9] (fun i wr => ∃ j : Nat, j ≤ n ∧ i = .int .i64 j ∧ Hid (St1 T sp len S w0 wr g (runG len S T zv j) [])) (fun i _ => n - (intOf i).toNat)
  case atStart => exact ⟨0, Nat.zero_le _, rfl, H2⟩
  case round =>
    obtain ⟨j, hj, rfl, HJ⟩ := hrel
    by_cases hlt : j < n
    · have hb := St.b (unhide HJ)
      obtain ⟨bs, o, rfl, hbl, hcs⟩ := unhide HA (by omega)
      have hc : ∀ q, q < 9 → wr.cell? ⟨bs, o + j * 9 + q, none⟩ = some (.int .i64 (zv j q)) := fun q hq => ((hB0.trans (hb.mono (by omega))).cell (p := ⟨bs, _, none⟩) hbl).trans (hcs j hlt q hq)
      have hbw : bs < wr.heap.size := by have := hb.size; omega
      have u0 := Later.cell (w := wr) hbw (hc 0 (by omega))
      have u1 := Later.cell (w := wr) hbw (hc 1 (by omega))
      have u2 := Later.cell (w := wr) hbw (hc 2 (by omega))
      have u3 := Later.cell (w := wr) hbw (hc 3 (by omega))
      have u4 := Later.cell (w := wr) hbw (hc 4 (by omega))
      have u5 := Later.cell (w := wr) hbw (hc 5 (by omega))
      have u6 := Later.cell (w := wr) hbw (hc 6 (by omega))
      have u7 := Later.cell (w := wr) hbw (hc 7 (by omega))
      have u8 := Later.cell (w := wr) hbw (hc 8 (by omega))
      rw [Nat.add_zero] at u0
      clear hc hcs
      have b0 : (0 : Int) ≤ (j : Int) := by omega
      have b1 : (j : Int) < (n : Int) := by omega
      go_wp2_with fail
      refine wp_region_head_later 11 wr (by kernel_rfl) (by kernel_rfl) (by repeat (first | exact Below.refl _ _ | assumption | refine Below.alloc ?_ (by first | (simp; done) | (simp; omega) | omega) _ | refine Below.setCell ?_ (by first | (simp; done) | (simp; omega) | omega) _ | apply Below.drew | refine Below.trans ?_ (Below.mono (by assumption) (by first | (simp; done) | (simp; omega) | omega)))) ?_; simp only [List.take_succ_cons, List.take_zero]; (repeat (first | go_big_quiet_skip | (go_big_quiet_want; (first | ((fail); go_big_quiet_on; simp only [Act.put, List.setIfInBounds_toArray, List.set_cons_zero, List.set_cons_succ]) | (go_big_quiet_op; (first | go_big_quiet_on | go_big_quiet_call ((fail)))))))); refine wpQuiet_nil ?_; intro U hU; simp only [List.drop_succ_cons, List.drop_zero]
      clear u0 u1 u2 u3 u4 u5 u6 u7 u8
      go_wp2_with fail
      refine (st1_do (St.below (unhide HJ) hU) (by have := runG_n len S T zv j; omega) (zv j 0) (opz zv j) rfl).mono ?_
      rintro e w' ⟨rfl, hs⟩
      have HS : Hid (St1 T sp len S w0 w' g (runG len S T zv (j + 1)) []) := hide hs
      clear hs
      go_wp2
      go_roundw
      case measure => simp [intOf]; omega
      case rel => exact ⟨j + 1, by omega, by go_num, HS⟩
    · obtain rfl : j = n := by omega
      have hGn := runG_n len S T zv j
      have hGok := St.ok (unhide HJ) (i := 0) (by omega)
      have hGok : (runG len S T zv j).Ok len S T := hGok
      generalize hGe : runG len S T zv j = G at *
      clear hGe
      have HJ1 := hide (St.b (unhide HJ))
      have hx := unhide HX1 wr (unhide HJ1)
      have x0 : wr.cell? ⟨w.heap.size + 1, 0, none⟩ = some (.int .i64 a0) := hx 0 (by omega)
      have x1 : wr.cell? ⟨w.heap.size + 1, 2, none⟩ = some (.int .i64 a2) := hx 2 (by omega)
      have x2 : wr.cell? ⟨w.heap.size + 1, 3, none⟩ = some (.int .i64 a3) := hx 3 (by omega)
      have x5 : wr.cell? ⟨w.heap.size + 1, 5, none⟩ = some (.int .i64 a5) := hx 5 (by omega)
      clear hx
      go_wp2_with fail
      have HJ2 := hide (St.box (unhide HJ) #[.int .i64 3, .int .i64 a2, .int .i64 a3, .int .i64 0, .int .i64 a5, .int .i64 0, .int .i64 0, .int .i64 0] 28)
      clear HJ HJ1 x0 x1 x2 x5
      refine (st1_copy (unhide HJ2) (by omega)).mono ?_
      rintro e w3 ⟨ga, rfl, h3⟩
      have H3 := hide h3
      clear h3 HJ2
      go_wp2_with fail
      refine (st2_copy (unhide H3) (by omega)).mono ?_
      rintro e w4 ⟨gh, rfl, h4⟩
      have H4 := hide h4
      have hb4 := St.b h4
      have hx := unhide HX1 w4 hb4
      have x0 : w4.cell? ⟨w.heap.size + 1, 0, none⟩ = some (.int .i64 a0) := hx 0 (by omega)
      have hy := St.cell h4 (b := wr.heap.size) List.mem_cons_self
      have y0 : w4.cell? ⟨wr.heap.size, 0, none⟩ = some (.int .i64 3) := hy 0
      have y1 : w4.cell? ⟨wr.heap.size, 1, none⟩ = some (.int .i64 a2) := hy 1
      have y2 : w4.cell? ⟨wr.heap.size, 2, none⟩ = some (.int .i64 a3) := hy 2
      have y3 : w4.cell? ⟨wr.heap.size, 3, none⟩ = some (.int .i64 0) := hy 3
      have y4 : w4.cell? ⟨wr.heap.size, 4, none⟩ = some (.int .i64 a5) := hy 4
      have y5 : w4.cell? ⟨wr.heap.size, 5, none⟩ = some (.int .i64 0) := hy 5
      have y6 : w4.cell? ⟨wr.heap.size, 6, none⟩ = some (.int .i64 0) := hy 6
      have y7 : w4.cell? ⟨wr.heap.size, 7, none⟩ = some (.int .i64 0) := hy 7
      clear h4 hb4 hx hy H3
      go_wp2_with fail
      have hP : Hid (∀ free : Int, 3 ≤ free ∧ free ≤ 5 → free ≠ a2 → free ≠ a3 → G.aE len S T a0 (zl [3, a2, a3, 0, a5]) = 0 → aF T a0 = 0 →
        (((G.go len S T a0 (zl [3, a2, a3, 0, a5])).go len S T a0 (zl [2, a2, free, 0, a5])).aI len S T a0 (zl [8, free, a3])) = true ∧
        ((G.go len S T a0 (zl [2, a2, free, 0, a5])).aI len S T a0 (zl [8, free, a3])) = (((G.go len S T a0 (zl [2, a2, free, 0, a5])).go len S T a0 (zl [8, free, a3])).aI len S T a0 (zl [4, a2, a3, a2, a5]))) := hide (fun free h1 h2 h3 h4 h5 => holds_plain hGok a0 a2 a3 a5 free h1 h2 h3 h4 h5)
      refine (st3_do1 (unhide H4) (by omega) a0 (zl [3, a2, a3, 0, a5]) rfl).mono ?_
      rintro e w5 ⟨rfl, h5⟩
      have H5 := hide (St.box h5 (ansC len S T G a0 (zl [3, a2, a3, 0, a5])) 39)
      have hn5 := (Gr.go_n (len := len) (S := S) (T := T) G a0 (zl [3, a2, a3, 0, a5])).1
      clear h5 H4 x0 y0 y1 y2 y3 y4 y5 y6 y7
      simp only [ansC] at H5 ⊢
      by_cases hF : aF T a0 = 0
      · by_cases hE : G.aE len S T a0 (zl [3, a2, a3, 0, a5]) = 0
        · have HP := hide (fun free h1 h2 h3 => unhide hP free h1 h2 h3 hE hF)
          rw [hE] at H5 ⊢
          rw [hF]
          clear hP hE hF hGok
          generalize G.go len S T a0 (zl [3, a2, a3, 0, a5]) = G1 at *
          generalize G.aI len S T a0 (zl [3, a2, a3, 0, a5]) = i5 at *
          generalize G.aV len S T a0 (zl [3, a2, a3, 0, a5]) = v5 at *
          go_upto_region 14 with (first | (go_at_call 12; refine (num_any _ _).mono ?_; rintro e w' ⟨rfl, rfl⟩))
          refine wp_gen ?_
          intro w6 hw6
          rw [← hw6] at H5
          have hb6 := St.b (unhide H5)
          have hx := unhide HX1 w6 hb6
          have x0 : w6.cell? ⟨w.heap.size + 1, 0, none⟩ = some (.int .i64 a0) := hx 0 (by omega)
          have x1 : w6.cell? ⟨w.heap.size + 1, 2, none⟩ = some (.int .i64 a2) := hx 2 (by omega)
          have x2 : w6.cell? ⟨w.heap.size + 1, 3, none⟩ = some (.int .i64 a3) := hx 3 (by omega)
          have x5 : w6.cell? ⟨w.heap.size + 1, 5, none⟩ = some (.int .i64 a5) := hx 5 (by omega)
          clear hw6 hx hb6
          obtain ⟨T1, hT1⟩ : ∃ T1 : Bool, Hid (T1 = true ↔ (a2 = 5 ∨ a3 = 5)) := ⟨decide (a2 = 5 ∨ a3 = 5), hide (by simp)⟩
          go_cut [96] (fun s96 wx => s96 = .bool T1 ∧ w6 = wx)
          case first =>
            have h1 := unhide hT1
            by_cases e1 : a2 = 5
            · obtain rfl : T1 = true := h1.2 (.inl e1)
              have e1' : (a2 == 5) = true := by simpa using e1
              clear h1 hT1 e1
              go_wp2
              go_meet
              exact ⟨rfl, rfl⟩
            · have e1' : (a2 == 5) = false := by simpa using e1
              by_cases e2 : a3 = 5
              · obtain rfl : T1 = true := h1.2 (.inr e2)
                have e2' : (a3 == 5) = true := by simpa using e2
                clear h1 hT1 e1 e2
                go_wp2
                go_meet
                exact ⟨rfl, rfl⟩
              · have e2' : (a3 == 5) = false := by simpa using e2
                obtain rfl : T1 = false := by
                  rw [Bool.eq_false_iff]
                  intro h
                  rcases h1.1 h with h | h
                  · exact e1 h
                  · exact e2 h
                clear h1 hT1 e1 e2
                go_wp2
                go_meet
                exact ⟨rfl, rfl⟩
          case rest =>
            obtain ⟨rfl, rfl⟩ := hcut
            go_upto_if 96 with fail
            go_cut [15] (fun s15 wx => s15 = .int .i64 (if T1 then 4 else 5) ∧ w6 = wx)
            case first =>
              cases T1
              · go_wp2
                go_meet
                exact ⟨rfl, rfl⟩
              · go_wp2
                go_meet
                exact ⟨rfl, rfl⟩
            case rest =>
              obtain ⟨rfl, rfl⟩ := hcut
              obtain ⟨F1, hF1⟩ : ∃ F1 : Int, F1 = (if T1 then 4 else 5) := ⟨_, rfl⟩
              rw [← hF1]
              have HF1 : Hid (F1 = 4 ∧ (a2 = 5 ∨ a3 = 5) ∨ F1 = 5 ∧ ¬ (a2 = 5 ∨ a3 = 5)) := hide (by
                have h := unhide hT1
                cases T1
                · refine .inr ⟨by rw [hF1]; rfl, fun k => by have := h.2 k; cases this⟩
                · exact .inl ⟨by rw [hF1]; rfl, h.1 rfl⟩)
              clear hF1 hT1
              go_upto_region 16 with fail
              obtain ⟨T2, hT2⟩ : ∃ T2 : Bool, Hid (T2 = true ↔ (F1 = 4 ∧ (a2 = 4 ∨ a3 = 4))) := ⟨decide (F1 = 4 ∧ (a2 = 4 ∨ a3 = 4)), hide (by simp)⟩
              go_cut [110] (fun s110 wx => s110 = .bool T2 ∧ w6 = wx)
              case first =>
                have h1 := unhide hT2
                by_cases e0 : F1 = 4
                · have e0' : (F1 == 4) = true := by simpa using e0
                  by_cases e1 : a2 = 4
                  · obtain rfl : T2 = true := h1.2 ⟨e0, .inl e1⟩
                    have e1' : (a2 == 4) = true := by simpa using e1
                    clear h1 hT2 e0 e1
                    go_wp2
                    go_meet
                    exact ⟨rfl, rfl⟩
                  · have e1' : (a2 == 4) = false := by simpa using e1
                    by_cases e2 : a3 = 4
                    · obtain rfl : T2 = true := h1.2 ⟨e0, .inr e2⟩
                      have e2' : (a3 == 4) = true := by simpa using e2
                      clear h1 hT2 e0 e1 e2
                      go_wp2
                      go_meet
                      exact ⟨rfl, rfl⟩
                    · have e2' : (a3 == 4) = false := by simpa using e2
                      obtain rfl : T2 = false := by
                        rw [Bool.eq_false_iff]
                        intro h
                        rcases (h1.1 h).2 with h | h
                        · exact e1 h
                        · exact e2 h
                      clear h1 hT2 e0 e1 e2
                      go_wp2
                      go_meet
                      exact ⟨rfl, rfl⟩
                · have e0' : (F1 == 4) = false := by simpa using e0
                  obtain rfl : T2 = false := by
                    rw [Bool.eq_false_iff]
                    intro h
                    exact e0 (h1.1 h).1
                  clear h1 hT2 e0
                  go_wp2
                  go_meet
                  exact ⟨rfl, rfl⟩
              case rest =>
                obtain ⟨rfl, rfl⟩ := hcut
                go_upto_if 110 with fail
                go_cut [15] (fun s15 wx => s15 = .int .i64 (if T2 then 3 else F1) ∧ w6 = wx)
                case first =>
                  cases T2
                  · go_wp2
                    go_meet
                    exact ⟨rfl, rfl⟩
                  · go_wp2
                    go_meet
                    exact ⟨rfl, rfl⟩
                case rest =>
                  obtain ⟨rfl, rfl⟩ := hcut
                  obtain ⟨fr, hfr⟩ : ∃ fr : Int, fr = (if T2 then 3 else F1) := ⟨_, rfl⟩
                  rw [← hfr]
                  obtain ⟨hp1, hp2⟩ := unhide HP fr (by
                    have h2 := unhide hT2
                    have h1 := unhide HF1
                    cases T2
                    · have h3 : ¬ (F1 = 4 ∧ (a2 = 4 ∨ a3 = 4)) := fun k => by have := h2.2 k; cases this
                      have hfr : fr = F1 := hfr
                      omega
                    · have hfr : fr = 3 := hfr
                      omega) (by
                    have h2 := unhide hT2
                    have h1 := unhide HF1
                    cases T2
                    · have h3 : ¬ (F1 = 4 ∧ (a2 = 4 ∨ a3 = 4)) := fun k => by have := h2.2 k; cases this
                      have hfr : fr = F1 := hfr
                      omega
                    · have h3 := h2.1 rfl
                      have hfr : fr = 3 := hfr
                      omega) (by
                    have h2 := unhide hT2
                    have h1 := unhide HF1
                    cases T2
                    · have h3 : ¬ (F1 = 4 ∧ (a2 = 4 ∨ a3 = 4)) := fun k => by have := h2.2 k; cases this
                      have hfr : fr = F1 := hfr
                      omega
                    · have h3 := h2.1 rfl
                      have hfr : fr = 3 := hfr
                      omega)
                  clear hfr HF1 hT2 HP
                  have HZ := H5
                  clear H5
                  have hnA := hn5
                  clear hn5
                  have hnH : G.n ≤ G.n + 1 := Nat.le_succ _
                  go_wp2_with fail
                  refine (st3_do1 (unhide HZ) (by omega) a0 (zl [2, a2, fr, 0, a5]) rfl).mono ?_
                  rintro e w7 ⟨rfl, h7⟩
                  have hnB := (Gr.go_n (len := len) (S := S) (T := T) G1 a0 (zl [2, a2, fr, 0, a5])).1
                  clear HZ x0 x1 x2 x5
                  have HZ := hide h7
                  clear h7
                  generalize G1.go len S T a0 (zl [2, a2, fr, 0, a5]) = G2 at *
                  have hx := unhide HX1 w7 (St.b (unhide HZ))
                  have x0 : (w7).cell? ⟨w.heap.size + 1, 0, none⟩ = some (.int .i64 a0) := hx 0 (by omega)
                  have x1 : (w7).cell? ⟨w.heap.size + 1, 2, none⟩ = some (.int .i64 a2) := hx 2 (by omega)
                  have x2 : (w7).cell? ⟨w.heap.size + 1, 3, none⟩ = some (.int .i64 a3) := hx 3 (by omega)
                  have x5 : (w7).cell? ⟨w.heap.size + 1, 5, none⟩ = some (.int .i64 a5) := hx 5 (by omega)
                  clear hx
                  go_wp2_with fail
                  refine (st3_do1 (unhide HZ) (by omega) a0 (zl [8, fr, a3]) rfl).mono ?_
                  rintro e w8 ⟨rfl, h8⟩
                  simp only [ansC]
                  rw [hp1]
                  generalize G2.aE len S T a0 (zl [8, fr, a3]) = e8 at *
                  generalize G2.aV len S T a0 (zl [8, fr, a3]) = v8 at *
                  clear HZ x0 x1 x2 x5 hp1
                  have HZ := hide (St.box h8 #[.int .i64 e8, .bool true, .int .i64 v8] 39)
                  clear h8
                  generalize G2.go len S T a0 (zl [8, fr, a3]) = G3 at *
                  have hx := unhide HX1 (w8.alloc (.cells #[.int .i64 e8, .bool true, .int .i64 v8] 39)) (St.b (unhide HZ))
                  have x0 : (w8.alloc (.cells #[.int .i64 e8, .bool true, .int .i64 v8] 39)).cell? ⟨w.heap.size + 1, 0, none⟩ = some (.int .i64 a0) := hx 0 (by omega)
                  have x1 : (w8.alloc (.cells #[.int .i64 e8, .bool true, .int .i64 v8] 39)).cell? ⟨w.heap.size + 1, 2, none⟩ = some (.int .i64 a2) := hx 2 (by omega)
                  have x2 : (w8.alloc (.cells #[.int .i64 e8, .bool true, .int .i64 v8] 39)).cell? ⟨w.heap.size + 1, 3, none⟩ = some (.int .i64 a3) := hx 3 (by omega)
                  have x5 : (w8.alloc (.cells #[.int .i64 e8, .bool true, .int .i64 v8] 39)).cell? ⟨w.heap.size + 1, 5, none⟩ = some (.int .i64 a5) := hx 5 (by omega)
                  clear hx
                  go_wp2_with fail
                  refine (st3_do2 (unhide HZ) (by omega) a0 (zl [2, a2, fr, 0, a5]) rfl).mono ?_
                  rintro e w9 ⟨rfl, h9⟩
                  have hnC := (Gr.go_n (len := len) (S := S) (T := T) G a0 (zl [2, a2, fr, 0, a5])).1
                  clear HZ x0 x1 x2 x5
                  have HZ := hide h9
                  clear h9
                  generalize G.go len S T a0 (zl [2, a2, fr, 0, a5]) = G4 at *
                  have hx := unhide HX1 w9 (St.b (unhide HZ))
                  have x0 : (w9).cell? ⟨w.heap.size + 1, 0, none⟩ = some (.int .i64 a0) := hx 0 (by omega)
                  have x1 : (w9).cell? ⟨w.heap.size + 1, 2, none⟩ = some (.int .i64 a2) := hx 2 (by omega)
                  have x2 : (w9).cell? ⟨w.heap.size + 1, 3, none⟩ = some (.int .i64 a3) := hx 3 (by omega)
                  have x5 : (w9).cell? ⟨w.heap.size + 1, 5, none⟩ = some (.int .i64 a5) := hx 5 (by omega)
                  clear hx
                  go_wp2_with fail
                  refine (st3_do2 (unhide HZ) (by omega) a0 (zl [8, fr, a3]) rfl).mono ?_
                  rintro e w10 ⟨rfl, h10⟩
                  simp only [ansC]
                  have hnD := (Gr.go_n (len := len) (S := S) (T := T) G4 a0 (zl [8, fr, a3])).1
                  generalize G4.aE len S T a0 (zl [8, fr, a3]) = e10 at *
                  generalize G4.aV len S T a0 (zl [8, fr, a3]) = v10 at *
                  generalize G4.aI len S T a0 (zl [8, fr, a3]) = i10 at *
                  have HP2 := hide hp2
                  clear HZ x0 x1 x2 x5 hp2
                  have HZ := hide (St.box h10 #[.int .i64 e10, .bool i10, .int .i64 v10] 39)
                  clear h10
                  generalize G4.go len S T a0 (zl [8, fr, a3]) = G5 at *
                  have hx := unhide HX1 (w10.alloc (.cells #[.int .i64 e10, .bool i10, .int .i64 v10] 39)) (St.b (unhide HZ))
                  have x0 : (w10.alloc (.cells #[.int .i64 e10, .bool i10, .int .i64 v10] 39)).cell? ⟨w.heap.size + 1, 0, none⟩ = some (.int .i64 a0) := hx 0 (by omega)
                  have x1 : (w10.alloc (.cells #[.int .i64 e10, .bool i10, .int .i64 v10] 39)).cell? ⟨w.heap.size + 1, 2, none⟩ = some (.int .i64 a2) := hx 2 (by omega)
                  have x2 : (w10.alloc (.cells #[.int .i64 e10, .bool i10, .int .i64 v10] 39)).cell? ⟨w.heap.size + 1, 3, none⟩ = some (.int .i64 a3) := hx 3 (by omega)
                  have x5 : (w10.alloc (.cells #[.int .i64 e10, .bool i10, .int .i64 v10] 39)).cell? ⟨w.heap.size + 1, 5, none⟩ = some (.int .i64 a5) := hx 5 (by omega)
                  clear hx
                  go_wp2_with fail
                  refine (st3_do2 (unhide HZ) (by omega) a0 (zl [4, a2, a3, a2, a5]) rfl).mono ?_
                  rintro e w11 ⟨rfl, h11⟩
                  simp only [ansC]
                  rw [← unhide HP2]
                  generalize G5.aE len S T a0 (zl [4, a2, a3, a2, a5]) = e11 at *
                  generalize G5.aV len S T a0 (zl [4, a2, a3, a2, a5]) = v11 at *
                  clear HZ x0 x1 x2 x5 HP2
                  have h12 := St.box h11 #[.int .i64 e11, .bool i10, .int .i64 v11] 39
                  have d1 : (w11.alloc (.cells #[.int .i64 e11, .bool i10, .int .i64 v11] 39)).cell? ⟨w8.heap.size, 1, none⟩ = some (.bool true) := St.cell (b := w8.heap.size) (c := #[.int .i64 e8, .bool true, .int .i64 v8]) (t := 39) h12 (by simp) 1
                  have d2 : (w11.alloc (.cells #[.int .i64 e11, .bool i10, .int .i64 v11] 39)).cell? ⟨w10.heap.size, 1, none⟩ = some (.bool i10) := St.cell (b := w10.heap.size) (c := #[.int .i64 e10, .bool i10, .int .i64 v10]) (t := 39) h12 (by simp) 1
                  have d3 : (w11.alloc (.cells #[.int .i64 e11, .bool i10, .int .i64 v11] 39)).cell? ⟨w11.heap.size, 1, none⟩ = some (.bool i10) := St.cell (b := w11.heap.size) (c := #[.int .i64 e11, .bool i10, .int .i64 v11]) (t := 39) h12 (by simp) 1
                  have HB := hide (hB0.trans ((St.b h12).mono (by omega)))
                  clear h11 h12
                  go_wp2_with fail
                  refine (works09_any _).mono ?_
                  rintro e w13 ⟨rfl, hb13⟩
                  go_wp2
                  go_ret
                  exact ⟨rfl, (unhide HB).trans (hb13.mono (unhide HB).size)⟩
        · have HB := hide (hB0.trans ((St.b (unhide H5)).mono (by omega)))
          rw [hF]
          have hE' : (G.aE len S T a0 (zl [3, a2, a3, 0, a5]) != 0) = true := by simpa using hE
          clear hP H5 hE hF hGok
          generalize G.aE len S T a0 (zl [3, a2, a3, 0, a5]) = e5 at *
          generalize G.aI len S T a0 (zl [3, a2, a3, 0, a5]) = i5 at *
          generalize G.aV len S T a0 (zl [3, a2, a3, 0, a5]) = v5 at *
          go_wp2_with (first | (go_at_call 12; refine (num_any _ _).mono ?_; rintro e w' ⟨rfl, rfl⟩))
          refine (works09_any _).mono ?_
          rintro e w13 ⟨rfl, hb13⟩
          go_wp2
          go_ret
          exact ⟨rfl, (unhide HB).trans (hb13.mono (unhide HB).size)⟩
      · have hF4 : aF T a0 = 4 := by unfold aF at hF ⊢; split <;> simp_all
        have HB := hide (hB0.trans ((St.b (unhide H5)).mono (by omega)))
        rw [hF4]
        clear hP H5 hF hF4 hGok
        generalize G.aE len S T a0 (zl [3, a2, a3, 0, a5]) = e5 at *
        generalize G.aI len S T a0 (zl [3, a2, a3, 0, a5]) = i5 at *
        generalize G.aV len S T a0 (zl [3, a2, a3, 0, a5]) = v5 at *
        go_wp2_with (first | (go_at_call 12; refine (num_any _ _).mono ?_; rintro e w' ⟨rfl, rfl⟩))
        refine (works09_any _).mono ?_
        rintro e w13 ⟨rfl, hb13⟩
        go_wp2
        go_ret
        exact ⟨rfl, (unhide HB).trans (hb13.mono (unhide HB).size)⟩

theorem graphHolds_walk (t : Int) (_ : (Lit.int .i64 t).wf = true) (sp : Int) (_ : (Lit.int .i64 sp).wf = true) (A : Option Addr) (len cap : Nat) (B : Option Addr) (n bc : Nat) (a0 : Int) (_ : (Lit.int .i64 a0).wf = true) (a1 : Int) (_ : (Lit.int .i64 a1).wf = true) (a2 : Int) (_ : (Lit.int .i64 a2).wf = true) (a3 : Int) (_ : (Lit.int .i64 a3).wf = true) (a4 : Int) (_ : (Lit.int .i64 a4).wf = true) (a5 : Int) (_ : (Lit.int .i64 a5).wf = true) (a6 : Int) (_ : (Lit.int .i64 a6).wf = true) (a7 : Int) (_ : (Lit.int .i64 a7).wf = true) (a8 : Int) (_ : (Lit.int .i64 a8).wf = true) (w : World) (hr : RowOk w 5 [.str] A len cap) (hr2 : RowOk w 5 [.int .i64, .int .i64, .int .i64, .int .i64, .int .i64, .int .i64, .int .i64, .int .i64, .int .i64] B n bc) :
    Calls Try.prog 3 #[.agg #[.int .i64 t, .int .i64 sp, .slice A len cap], .slice B n bc, .agg #[.int .i64 a0, .int .i64 a1, .int .i64 a2, .int .i64 a3, .int .i64 a4, .int .i64 a5, .int .i64 a6, .int .i64 a7, .int .i64 a8]] w fun e w' => e = .returned (.bool true) ∧ Below w.heap.size w w' := by
  have hm := hr.1
  have hm2 := hr.2.1
  have hn := hr2.1
  have hn2 := hr2.2.1
  unfold maxLen at hm2 hn2
  obtain ⟨S, H, hS⟩ := ShOk.of_row hr
  obtain ⟨zv, HA⟩ := ActOk.of_row hr2
  cases e1 : okPB t sp len S with
  | false => exact holds_bad t sp A len cap B n bc (by omega) (by omega) a0 a1 a2 a3 a4 a5 a6 a7 a8 S w H hS e1
  | true =>
    have h8 := (okPB_iff.1 e1).1
    obtain ⟨T, rfl⟩ : ∃ T : Nat, t = (T : Int) := ⟨t.toNat, by omega⟩
    cases e2 : fewB len S n 40 with
    | false => exact holds_many T sp A len cap B n bc (by omega) (by omega) a0 a1 a2 a3 a4 a5 a6 a7 a8 S w H hS e1 e2
    | true => exact holds_ok T sp A len cap B n bc (by omega) (by omega) a0 a1 a2 a3 a4 a5 a6 a7 a8 S zv w H hS (hide HA) e2 e1
end Go.Proofs.Ytbkaopeajjechaa
