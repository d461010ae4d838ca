/- The statement of GraphPlay: whatever plan and operations, each answer is what the reference tells. -/
import Derived.Test.YtbkaopeajjechaaHwA
namespace Go.Proofs.Ytbkaopeajjechaa
set_option linter.unusedVariables false
set_option linter.unusedSimpArgs false
open Go.RowKit Go.Maps

set_option maxRecDepth 100000 in
set_option maxHeartbeats 8000000 in
theorem play_many (t sp : Int) (A : Option Addr) (len cap : Nat) (B : Option Addr) (n bc : Nat) (hn : n ≤ 9223372036854775807) (hlen : len ≤ 9223372036854775807) (S : Nat → ByteArray) (w : World) (H : ShOk w A len S) (hS : ∀ i, i < len → (S i).size ≤ maxLen) (hno : fewB len S n 80 = false) :
    Calls Try.prog 4 #[.agg #[.int .i64 t, .int .i64 sp, .slice A len cap], .slice B n bc] w fun e w' => e = .returned (.bool true) ∧ Below w.heap.size w w' := by
  have cf := hide (fun W (hW : Below w.heap.size w W) => few_any t sp A len cap S B n bc 80 hn (by omega) hlen W (H.keep hW) hS)
  rw [hno] at cf
  clear hS H hno hn hlen
  go_enter Try.func4, Try.ntmps4
  go_wp2_with fail
  refine calls_gen ?_
  intro w0 hw0
  have hw0' : [.cells #[.int .i64 t, .int .i64 sp, .slice A len cap] 24].foldl World.alloc w = w0 := hw0.symm
  have hB0 := allocs_below [.cells #[.int .i64 t, .int .i64 sp, .slice A len cap] 24] w
  have hz0 := allocs_size [.cells #[.int .i64 t, .int .i64 sp, .slice A len cap] 24] w
  have hat := allocs_at [.cells #[.int .i64 t, .int .i64 sp, .slice A len cap] 24] w
  rw [hw0'] at hB0 hz0 hat
  simp only [List.length_cons, List.length_nil] at hz0
  have b0 : w0.heap[w.heap.size]? = _ := hat 0 _ rfl
  have HX0 := hide (fun W (hW : Below w0.heap.size w0 W) => (hW.block _ (Array.getElem?_eq_some_iff.1 b0).1).trans b0)
  clear hw0 hw0' hat b0
  refine (unhide cf w0 hB0).mono ?_
  rintro e w2 ⟨rfl, hb2⟩
  have HB := hide (hB0.trans (hb2.mono (by omega)))
  clear hb2
  go_wp2_with fail
  refine (works09_any _).mono ?_
  rintro e w13 ⟨rfl, hb13⟩
  go_wp2
  go_ret
  exact ⟨rfl, (unhide HB).trans (hb13.mono ((unhide HB)).size)⟩

set_option maxRecDepth 100000 in
set_option maxHeartbeats 8000000 in
theorem play_bad (t sp : Int) (A : Option Addr) (len cap : Nat) (B : Option Addr) (n bc : Nat) (hn : n ≤ 9223372036854775807) (hlen : len ≤ 9223372036854775807) (S : Nat → ByteArray) (w : World) (H : ShOk w A len S) (hS : ∀ i, i < len → (S i).size ≤ maxLen) (hf : fewB len S n 80 = true) (hno : okPB t sp len S = false) :
    Calls Try.prog 4 #[.agg #[.int .i64 t, .int .i64 sp, .slice A len cap], .slice B n bc] w fun e w' => e = .returned (.bool true) ∧ Below w.heap.size w w' := by
  have cf := hide (fun W (hW : Below w.heap.size w W) => few_any t sp A len cap S B n bc 80 hn (by omega) hlen W (H.keep hW) hS)
  have hS2 : ∀ i, i < len → (S i).size ≤ 9223372036854775807 := fun i hi => by have := hS i hi; unfold maxLen at this; omega
  have cn := hide (fun W (hW : Below w.heap.size w W) => new_no t A cap W (H.keep hW) hlen hS2 hno)
  have cr := hide (fun W (hW : Below w.heap.size w W) => rRight_any (sp := sp) t cap S hlen hS2 W (H.keep hW))
  rw [hno] at cr
  rw [hf] at cf
  clear hS hS2 H hno hf hn hlen
  go_enter Try.func4, Try.ntmps4
  go_wp2_with fail
  refine calls_gen ?_
  intro w0 hw0
  have hw0' : [.cells #[.int .i64 t, .int .i64 sp, .slice A len cap] 24].foldl World.alloc w = w0 := hw0.symm
  have hB0 := allocs_below [.cells #[.int .i64 t, .int .i64 sp, .slice A len cap] 24] w
  have hz0 := allocs_size [.cells #[.int .i64 t, .int .i64 sp, .slice A len cap] 24] w
  have hat := allocs_at [.cells #[.int .i64 t, .int .i64 sp, .slice A len cap] 24] w
  rw [hw0'] at hB0 hz0 hat
  simp only [List.length_cons, List.length_nil] at hz0
  have b0 : w0.heap[w.heap.size]? = _ := hat 0 _ rfl
  have HX0 := hide (fun W (hW : Below w0.heap.size w0 W) => (hW.block _ (Array.getElem?_eq_some_iff.1 b0).1).trans b0)
  clear hw0 hw0' hat b0
  refine (unhide cf w0 hB0).mono ?_
  rintro e w2 ⟨rfl, hb2⟩
  have hq0 := unhide HX0 w2 hb2
  have p0 : w2.cell? ⟨w.heap.size, 0, none⟩ = some (.int .i64 t) := by rw [Lib.cell_of_heap hq0]; rfl
  have p1 : w2.cell? ⟨w.heap.size, 1, none⟩ = some (.int .i64 sp) := by rw [Lib.cell_of_heap hq0]; rfl
  have p2 : w2.cell? ⟨w.heap.size, 2, none⟩ = some (.slice A len cap) := by rw [Lib.cell_of_heap hq0]; rfl
  clear hq0
  go_wp2_with fail
  refine (unhide cn _ (hB0.trans (hb2.mono (by omega)))).mono ?_
  rintro e w3 ⟨rfl, hb3⟩
  have hB3 : Below w0.heap.size w0 w3 := hb2.trans (hb3.mono hb2.size)
  clear p0 p1 p2 hb3
  have hq0 := unhide HX0 w3 hB3
  have p0 : w3.cell? ⟨w.heap.size, 0, none⟩ = some (.int .i64 t) := by rw [Lib.cell_of_heap hq0]; rfl
  have p1 : w3.cell? ⟨w.heap.size, 1, none⟩ = some (.int .i64 sp) := by rw [Lib.cell_of_heap hq0]; rfl
  have p2 : w3.cell? ⟨w.heap.size, 2, none⟩ = some (.slice A len cap) := by rw [Lib.cell_of_heap hq0]; rfl
  clear hq0
  go_wp2_with fail
  refine (unhide cr _ (hB0.trans (hB3.mono (by omega)))).mono ?_
  rintro e w4 ⟨rfl, hb4⟩
  have HB := hide (hB0.trans ((hB3.trans (hb4.mono hB3.size)).mono (by omega)))
  clear p0 p1 p2 hb4 hB3 hb2
  go_wp2_with (first | (go_at_call 12; refine (num_any _ _).mono ?_; rintro e w' ⟨rfl, rfl⟩))
  refine (works09_any _).mono ?_
  rintro e w13 ⟨rfl, hb13⟩
  go_wp2
  go_ret
  exact ⟨rfl, (unhide HB).trans (hb13.mono ((unhide HB)).size)⟩

theorem runG_pos (len : Nat) (S : Nat → ByteArray) (T : Nat) (zv : Nat → Nat → Int) : ∀ i, 1 ≤ (runG len S T zv i).n
  | 0 => Nat.le_refl 1
  | i + 1 => by
    have h := runG_pos len S T zv i
    have := (Gr.go_n (len := len) (S := S) (T := T) (runG len S T zv i) (zv i 0) (opz zv i)).2
    show 1 ≤ ((runG len S T zv i).go len S T (zv i 0) (opz zv i)).n
    omega

set_option maxRecDepth 100000 in
set_option maxHeartbeats 8000000 in
theorem play_ok (T : Nat) (sp : Int) (A : Option Addr) (len cap : Nat) (B : Option Addr) (n bc : Nat) (hn : n ≤ 9223372036854775807) (hlen : len ≤ 9223372036854775807) (S : Nat → ByteArray) (zv : Nat → Nat → Int) (w : World) (H : ShOk w A len S) (hS : ∀ i, i < len → (S i).size ≤ maxLen) (HA : Hid (ActOk w B n zv)) (hf : fewB len S n 80 = true) (hok : okPB (T : Int) sp len S = true) :
    Calls Try.prog 4 #[.agg #[.int .i64 (T : Int), .int .i64 sp, .slice A len cap], .slice B n bc] w fun e w' => e = .returned (.bool true) ∧ Below w.heap.size w w' := by
  have hn80 := (fewB_iff.1 hf).1
  have cf := hide (fun W (hW : Below w.heap.size w W) => few_any T sp A len cap S B n bc 80 hn (by omega) hlen W (H.keep hW) hS)
  have hS2 : ∀ i, i < len → (S i).size ≤ 9223372036854775807 := fun i hi => by have := hS i hi; unfold maxLen at this; omega
  have cr := hide (fun W (hW : Below w.heap.size w W) => rRight_any (sp := sp) (T : Int) cap S hlen hS2 W (H.keep hW))
  rw [hok] at cr
  rw [hf] at cf
  have HH := hide (fun W (hW : Below w.heap.size w W) => H.keep hW)
  have HOK := hide hok
  have hP := okPB_iff.1 hok
  have hT8 : 1 ≤ T ∧ T ≤ 8 := by have := hP.1; omega
  have hl16 : 1 ≤ len ∧ len ≤ 16 := ⟨hP.2.2.1, hP.2.2.2.1⟩
  have hS8 : ∀ i, i < len → (S i).size ≤ 8 := fun i hi => (hP.2.2.2.2 i hi).1
  have HS8 := hide hS8
  clear hf hok hS hS2 H hn hlen hP hS8
  go_enter Try.func4, Try.ntmps4
  go_wp2_with fail
  refine calls_gen ?_
  intro w0 hw0
  have hw0' : [.cells #[.int .i64 (T : Int), .int .i64 sp, .slice A len cap] 24].foldl World.alloc w = w0 := hw0.symm
  have hB0 := allocs_below [.cells #[.int .i64 (T : Int), .int .i64 sp, .slice A len cap] 24] w
  have hz0 := allocs_size [.cells #[.int .i64 (T : Int), .int .i64 sp, .slice A len cap] 24] w
  have hat := allocs_at [.cells #[.int .i64 (T : Int), .int .i64 sp, .slice A len cap] 24] w
  rw [hw0'] at hB0 hz0 hat
  simp only [List.length_cons, List.length_nil] at hz0
  have b0 : w0.heap[w.heap.size]? = _ := hat 0 _ rfl
  have HX0 := hide (fun W (hW : Below w0.heap.size w0 W) => (hW.block _ (Array.getElem?_eq_some_iff.1 b0).1).trans b0)
  clear hw0 hw0' hat b0
  refine (unhide cf w0 hB0).mono ?_
  rintro e w2 ⟨rfl, hb2⟩
  have hq0 := unhide HX0 w2 hb2
  have p0 : w2.cell? ⟨w.heap.size, 0, none⟩ = some (.int .i64 (T : Int)) := by rw [Lib.cell_of_heap hq0]; rfl
  have p1 : w2.cell? ⟨w.heap.size, 1, none⟩ = some (.int .i64 sp) := by rw [Lib.cell_of_heap hq0]; rfl
  have p2 : w2.cell? ⟨w.heap.size, 2, none⟩ = some (.slice A len cap) := by rw [Lib.cell_of_heap hq0]; rfl
  clear hq0
  have hBw2 : Below w.heap.size w w2 := hB0.trans (hb2.mono (by omega))
  have HSW := hide (unhide HH _ hBw2)
  have hzw2 := hb2.size
  go_wp2_with fail
  refine (st1_new (T := T) (sp := sp) (len := len) (S := S) (Below.refl _ w2) (unhide HSW) (unhide HOK)).mono ?_
  rintro e w3 ⟨g, rfl, h3⟩
  have H3 := hide h3
  have hb3 := St.b h3
  clear p0 p1 p2 h3
  have hB3 : Below w0.heap.size w0 w3 := hb2.trans (hb3.mono hb2.size)
  have hq0 := unhide HX0 w3 hB3
  have p0 : w3.cell? ⟨w.heap.size, 0, none⟩ = some (.int .i64 (T : Int)) := by rw [Lib.cell_of_heap hq0]; rfl
  have p1 : w3.cell? ⟨w.heap.size, 1, none⟩ = some (.int .i64 sp) := by rw [Lib.cell_of_heap hq0]; rfl
  have p2 : w3.cell? ⟨w.heap.size, 2, none⟩ = some (.slice A len cap) := by rw [Lib.cell_of_heap hq0]; rfl
  clear hq0
  go_wp2_with fail
  refine (unhide cr _ (hBw2.trans (hb3.mono hBw2.size))).mono ?_
  rintro e w4 ⟨rfl, hb4⟩
  have H4 := hide (St.below (unhide H3) hb4)
  have hB4 : Below w0.heap.size w0 w4 := hB3.trans (hb4.mono hB3.size)
  clear p0 p1 p2 H3 hb3 hB3 hb4
  have hq0 := unhide HX0 w4 hB4
  have p0 : w4.cell? ⟨w.heap.size, 0, none⟩ = some (.int .i64 (T : Int)) := by rw [Lib.cell_of_heap hq0]; rfl
  have p1 : w4.cell? ⟨w.heap.size, 1, none⟩ = some (.int .i64 sp) := by rw [Lib.cell_of_heap hq0]; rfl
  have p2 : w4.cell? ⟨w.heap.size, 2, none⟩ = some (.slice A len cap) := by rw [Lib.cell_of_heap hq0]; rfl
  clear hq0
  have hCN := rNew_any (T := T) (sp := sp) (cap := cap) ((unhide HSW).keep (St.b (unhide H4))) hl16.1 (unhide HS8 0 (by omega)) (by omega) hT8.1 hT8.2
  go_wp2_with (first | (go_at_call 12; refine (num_any _ _).mono ?_; rintro e w' ⟨rfl, rfl⟩))
  refine hCN.mono ?_
  rintro e w5 ⟨ρ, rfl, hI, hb5, hbk⟩
  clear hCN p0 p1 p2
  obtain ⟨lr, hR, hrb, h5⟩ := St.ref (unhide H4) hb5 hI hT8.1 (Nat.le_refl 1) (fun b hb => .inr (hbk b hb))
  have HR := hide hR
  have HNT : Hid (∀ q ∈ lr, q.1 ≠ w5.heap.size) := hide (fun q hq => by
    have := St.lt h5 (q := q) (List.mem_append_left _ hq)
    omega)
  have H5 := hide (St.box h5 #[.int .i64 (T : Int), .int .i64 sp, .slice A len cap, .slice (some ⟨ρ.rb, 0, none⟩) T ρ.rc, .slice (some ⟨ρ.sb, 0, none⟩) 1 ρ.sc, .slice (some ⟨ρ.fb, 0, none⟩) 1 ρ.fc] 49)
  have hz5 : w2.heap.size ≤ w5.heap.size := (St.b h5).size
  clear hI hb5 hbk hR hrb h5 H4 hB4
  unfold rV
  go_upto_region 9 with fail
  refine wp_gen ?_
  intro w6 hw6
  have h6 : St1 T sp len S w2 w6 g Gr.new ((w5.heap.size, .cells #[.int .i64 (T : Int), .int .i64 sp, .slice A len cap, .slice (some ⟨ρ.rb, 0, none⟩) T ρ.rc, .slice (some ⟨ρ.sb, 0, none⟩) 1 ρ.sc, .slice (some ⟨ρ.fb, 0, none⟩) 1 ρ.fc] 49 (0, 0)) :: lr) := by
    rw [hw6]
    have := unhide H5
    rw [List.append_nil] at this
    exact this
  have H6 := hide h6
  clear hw6 H5 h6
  generalize hT : w5.heap.size = tb at *
  clear hT
  go_wp2_with fail
  go_loopw [8] (fun i wr => ∃ j : Nat, j ≤ n ∧ i = .int .i64 j ∧ Hid (∃ ρ lr, RefAt T S lr ρ (runG len S T zv j) ∧ (∀ q ∈ lr, q.1 ≠ tb) ∧ St1 T sp len S w2 wr g (runG len S T zv j) ((tb, .cells #[.int .i64 (T : Int), .int .i64 sp, .slice A len cap, .slice (some ⟨ρ.rb, 0, none⟩) T ρ.rc, .slice (some ⟨ρ.sb, 0, none⟩) (runG len S T zv j).n ρ.sc, .slice (some ⟨ρ.fb, 0, none⟩) (runG len S T zv j).n ρ.fc] 49 (0, 0)) :: lr))) (fun i _ => n - (intOf i).toNat)
  case atStart => exact ⟨0, Nat.zero_le _, rfl, hide ⟨ρ, lr, unhide HR, unhide HNT, unhide H6⟩⟩
  case round =>
    obtain ⟨j, hj, rfl, HJ⟩ := hrel
    clear HR HNT H6
    obtain ⟨ρ, lr, hR, hne, hJ⟩ := unhide HJ
    have hGn := runG_n len S T zv j
    have hG1 := runG_pos len S T zv j
    by_cases hlt : j < n
    · have hnx : runG len S T zv (j + 1) = (runG len S T zv j).go len S T (zv j 0) (opz zv j) := rfl
      generalize runG len S T zv j = G at *
      have HNX0 := hide hnx
      have HR := hide hR
      have HNE := hide hne
      have H0 := hide hJ
      have HN1 := hide hG1
      have HN2 : Hid (G.n ≤ 99999) := hide (by omega)
      clear hnx hR hne hJ HJ hG1
      obtain ⟨bs, o, rfl, hbl, hcs⟩ := unhide HA (by omega)
      have hc : ∀ q, q < 9 → w2.cell? ⟨bs, o + j * 9 + q, none⟩ = some (.int .i64 (zv j q)) := fun q hq => (hBw2.cell (p := ⟨bs, _, none⟩) hbl).trans (hcs j hlt q hq)
      have hk : IsKpt w2 [(tb, .cells #[.int .i64 (T : Int), .int .i64 sp, .slice A len cap, .slice (some ⟨ρ.rb, 0, none⟩) T ρ.rc, .slice (some ⟨ρ.sb, 0, none⟩) G.n ρ.sc, .slice (some ⟨ρ.fb, 0, none⟩) G.n ρ.fc] 49 (0, 0))] wr.drew := (St.kpts (unhide H0) (by intro q hq; obtain rfl := List.mem_singleton.1 hq; exact List.mem_cons_self)).below ((Below.refl _ _).drew)
      haveI : Nonempty (Kpt w2 [(tb, .cells #[.int .i64 (T : Int), .int .i64 sp, .slice A len cap, .slice (some ⟨ρ.rb, 0, none⟩) T ρ.rc, .slice (some ⟨ρ.sb, 0, none⟩) G.n ρ.sc, .slice (some ⟨ρ.fb, 0, none⟩) G.n ρ.fc] 49 (0, 0))]) := ⟨⟨wr.drew, hk⟩⟩
      have uu : ∀ q, q < 9 → ∀ s : Kpt w2 [(tb, .cells #[.int .i64 (T : Int), .int .i64 sp, .slice A len cap, .slice (some ⟨ρ.rb, 0, none⟩) T ρ.rc, .slice (some ⟨ρ.sb, 0, none⟩) G.n ρ.sc, .slice (some ⟨ρ.fb, 0, none⟩) G.n ρ.fc] 49 (0, 0))], s.val.cell? ⟨bs, o + j * 9 + q, none⟩ = some (.int .i64 (zv j q)) := fun q hq => Kpt.cell (hc q hq)
      have u0 := uu 0 (by omega)
      have u1 := uu 1 (by omega)
      have u2 := uu 2 (by omega)
      have u3 := uu 3 (by omega)
      have u4 := uu 4 (by omega)
      have u5 := uu 5 (by omega)
      have u6 := uu 6 (by omega)
      have u7 := uu 7 (by omega)
      have u8 := uu 8 (by omega)
      have k0 : ∀ s : Kpt w2 [(tb, .cells #[.int .i64 (T : Int), .int .i64 sp, .slice A len cap, .slice (some ⟨ρ.rb, 0, none⟩) T ρ.rc, .slice (some ⟨ρ.sb, 0, none⟩) G.n ρ.sc, .slice (some ⟨ρ.fb, 0, none⟩) G.n ρ.fc] 49 (0, 0))], s.val.cell? ⟨tb, 0, none⟩ = some (.int .i64 (T : Int)) := Kpt.at List.mem_cons_self 0 rfl
      have k1 : ∀ s : Kpt w2 [(tb, .cells #[.int .i64 (T : Int), .int .i64 sp, .slice A len cap, .slice (some ⟨ρ.rb, 0, none⟩) T ρ.rc, .slice (some ⟨ρ.sb, 0, none⟩) G.n ρ.sc, .slice (some ⟨ρ.fb, 0, none⟩) G.n ρ.fc] 49 (0, 0))], s.val.cell? ⟨tb, 1, none⟩ = some (.int .i64 sp) := Kpt.at List.mem_cons_self 1 rfl
      have k2 : ∀ s : Kpt w2 [(tb, .cells #[.int .i64 (T : Int), .int .i64 sp, .slice A len cap, .slice (some ⟨ρ.rb, 0, none⟩) T ρ.rc, .slice (some ⟨ρ.sb, 0, none⟩) G.n ρ.sc, .slice (some ⟨ρ.fb, 0, none⟩) G.n ρ.fc] 49 (0, 0))], s.val.cell? ⟨tb, 2, none⟩ = some (.slice A len cap) := Kpt.at List.mem_cons_self 2 rfl
      have k3 : ∀ s : Kpt w2 [(tb, .cells #[.int .i64 (T : Int), .int .i64 sp, .slice A len cap, .slice (some ⟨ρ.rb, 0, none⟩) T ρ.rc, .slice (some ⟨ρ.sb, 0, none⟩) G.n ρ.sc, .slice (some ⟨ρ.fb, 0, none⟩) G.n ρ.fc] 49 (0, 0))], s.val.cell? ⟨tb, 3, none⟩ = some (.slice (some ⟨ρ.rb, 0, none⟩) T ρ.rc) := Kpt.at List.mem_cons_self 3 rfl
      have k4 : ∀ s : Kpt w2 [(tb, .cells #[.int .i64 (T : Int), .int .i64 sp, .slice A len cap, .slice (some ⟨ρ.rb, 0, none⟩) T ρ.rc, .slice (some ⟨ρ.sb, 0, none⟩) G.n ρ.sc, .slice (some ⟨ρ.fb, 0, none⟩) G.n ρ.fc] 49 (0, 0))], s.val.cell? ⟨tb, 4, none⟩ = some (.slice (some ⟨ρ.sb, 0, none⟩) G.n ρ.sc) := Kpt.at List.mem_cons_self 4 rfl
      have k5 : ∀ s : Kpt w2 [(tb, .cells #[.int .i64 (T : Int), .int .i64 sp, .slice A len cap, .slice (some ⟨ρ.rb, 0, none⟩) T ρ.rc, .slice (some ⟨ρ.sb, 0, none⟩) G.n ρ.sc, .slice (some ⟨ρ.fb, 0, none⟩) G.n ρ.fc] 49 (0, 0))], s.val.cell? ⟨tb, 5, none⟩ = some (.slice (some ⟨ρ.fb, 0, none⟩) G.n ρ.fc) := Kpt.at List.mem_cons_self 5 rfl
      rw [Nat.add_zero] at u0
      clear hc hcs uu
      have d0 : (0 : Int) ≤ (j : Int) := by omega
      have d1 : (j : Int) < (n : Int) := by omega
      go_upto_region 12 with fail
      go_cut [9, 10] (fun s9 s10 wx => ∃ pb, s9 = .pointer (some ⟨pb, 0, none⟩) ∧ s10 = .bool true ∧ ∃ ρ' lr', Hid (RefAt T S lr' ρ' (G.go len S T (zv j 0) (opz zv j))) ∧ Hid (∀ q ∈ lr', q.1 ≠ tb) ∧ Hid (St1 T sp len S w2 wx g (G.go len S T (zv j 0) (opz zv j)) ((pb, .cells #[.int .i64 (T : Int), .int .i64 sp, .slice A len cap, .slice (some ⟨ρ'.rb, 0, none⟩) T ρ'.rc, .slice (some ⟨ρ'.sb, 0, none⟩) (G.go len S T (zv j 0) (opz zv j)).n ρ'.sc, .slice (some ⟨ρ'.fb, 0, none⟩) (G.go len S T (zv j 0) (opz zv j)).n ρ'.fc] 49 (0, 0)) :: (lr' ++ (tb, .cells #[.int .i64 (T : Int), .int .i64 sp, .slice A len cap, .slice (some ⟨ρ.rb, 0, none⟩) T ρ.rc, .slice (some ⟨ρ.sb, 0, none⟩) G.n ρ.sc, .slice (some ⟨ρ.fb, 0, none⟩) G.n ρ.fc] 49 (0, 0)) :: lr))))
      case first =>
        refine wp_region_kpt [0, 0, 0, 0, 0, 0, 1, 1, 1, 1, 1, 1, 2] 12 [(7, 6), (8, 7), (9, 7), (11, 8), (11, 10)] w2 [(tb, .cells #[.int .i64 (T : Int), .int .i64 sp, .slice A len cap, .slice (some ⟨ρ.rb, 0, none⟩) T ρ.rc, .slice (some ⟨ρ.sb, 0, none⟩) G.n ρ.sc, .slice (some ⟨ρ.fb, 0, none⟩) G.n ρ.fc] 49 (0, 0))] (by kernel_rfl) (by kernel_rfl) hk ?_; simp only [kblk, List.map_cons, List.map_nil, Nat.reduceBNe, diesOps_f, diesOps_t, diesOps_nil, bne_self_eq_false]; (repeat (first | go_big_quiet_skip | (go_big_quiet_want; (first | ((fail); go_big_quiet_on; simp only [Act.put, List.setIfInBounds_toArray, List.set_cons_zero, List.set_cons_succ]) | (go_big_quiet_op; (first | go_big_quiet_on | go_big_quiet_call ((fail)))))))); refine wpQuiet_nil ?_; rw [show sideIdx [0, 0, 0, 0, 0, 0, 1, 1, 1, 1, 1, 1, 2] 12 = [6, 7, 8, 9, 10, 11] from by decide]; simp only [List.length_cons, List.length_nil, Nat.zero_add, Nat.reduceAdd]
        clear u0 u1 u2 u3 u4 u5 u6 u7 u8 k0 k1 k2 k3 k4 k5
        have H0v : Hid (St1 T sp len S w2 wr.drew g G ((tb, .cells #[.int .i64 (T : Int), .int .i64 sp, .slice A len cap, .slice (some ⟨ρ.rb, 0, none⟩) T ρ.rc, .slice (some ⟨ρ.sb, 0, none⟩) G.n ρ.sc, .slice (some ⟨ρ.fb, 0, none⟩) G.n ρ.fc] 49 (0, 0)) :: lr)) := hide (St.below (unhide H0) ((Below.refl _ _).drew))
        generalize wr.drew = v0 at hk H0v ⊢
        unfold treeGp; rw [show freeT [(7, 6), (8, 7), (9, 7), (11, 8), (11, 10)] [6, 7, 8, 9, 10, 11] = [6, 10] from by decide]; simp only [allL, List.getElem?_cons_zero, List.getElem?_cons_succ, List.erase_cons, beq_self_eq_true, if_true, Nat.reduceBEq, Bool.false_eq_true, if_false, and_true]
        refine ⟨?_, ?_⟩
        · refine ⟨fun _ => ?_, fun h => (Bool.false_ne_true (Eq.trans (Eq.symm h) (by rfl))).elim⟩
          unfold Oper.wpV; (try simp only [applyP, List.nil_append, List.cons_append, List.foldl_cons, List.foldl_nil, Act.put, List.setIfInBounds_toArray, List.set_cons_zero, List.set_cons_succ]); go_simp
          refine (pq_does (unhide H0v) (unhide HNE) (unhide HR) (unhide HSW) (unhide HN1) (unhide HN2) (zv j 0) (opz zv j)).mono ?_
          rintro e v1 ⟨ρ', lr', rfl, hR', hn2, hs1⟩
          have hk1 : IsKpt w2 [(tb, .cells #[.int .i64 (T : Int), .int .i64 sp, .slice A len cap, .slice (some ⟨ρ.rb, 0, none⟩) T ρ.rc, .slice (some ⟨ρ.sb, 0, none⟩) G.n ρ.sc, .slice (some ⟨ρ.fb, 0, none⟩) G.n ρ.fc] 49 (0, 0))] v1 := St.kpts hs1 (by intro q hq; obtain rfl := List.mem_singleton.1 hq; exact List.mem_append_right _ List.mem_cons_self)
          refine ⟨_, rfl, hk1, ?_⟩
          have HR' := hide hR'
          have HS6 := hide hs1
          have HN6 := hide hn2
          clear hR' hs1 hn2
          unfold rV
          unfold treeGp; rw [show freeT [(7, 6), (8, 7), (9, 7), (11, 8), (11, 10)] [7, 8, 9, 10, 11] = [7, 10] from by decide]; simp only [allL, List.getElem?_cons_zero, List.getElem?_cons_succ, List.erase_cons, beq_self_eq_true, if_true, Nat.reduceBEq, Bool.false_eq_true, if_false, and_true]
          refine ⟨?_, ?_⟩
          · refine ⟨fun _ => ?_, fun h => (Bool.false_ne_true (Eq.trans (Eq.symm h) (by rfl))).elim⟩
            unfold Oper.wpV; (try simp only [applyP, List.nil_append, List.cons_append, List.foldl_cons, List.foldl_nil, Act.put, List.setIfInBounds_toArray, List.set_cons_zero, List.set_cons_succ]); go_simp
            unfold treeGp; rw [show freeT [(7, 6), (8, 7), (9, 7), (11, 8), (11, 10)] [8, 9, 10, 11] = [8, 9, 10] from by decide]; simp only [allL, List.getElem?_cons_zero, List.getElem?_cons_succ, List.erase_cons, beq_self_eq_true, if_true, Nat.reduceBEq, Bool.false_eq_true, if_false, and_true]
            refine ⟨?_, ?_, ?_⟩
            · refine ⟨fun _ => ?_, fun h => (Bool.false_ne_true (Eq.trans (Eq.symm h) (by rfl))).elim⟩
              unfold Oper.wpV; (try simp only [applyP, List.nil_append, List.cons_append, List.foldl_cons, List.foldl_nil, Act.put, List.setIfInBounds_toArray, List.set_cons_zero, List.set_cons_succ]); go_simp
              unfold treeGp; rw [show freeT [(7, 6), (8, 7), (9, 7), (11, 8), (11, 10)] [9, 10, 11] = [9, 10] from by decide]; simp only [allL, List.getElem?_cons_zero, List.getElem?_cons_succ, List.erase_cons, beq_self_eq_true, if_true, Nat.reduceBEq, Bool.false_eq_true, if_false, and_true]
              refine ⟨?_, ?_⟩
              · refine ⟨fun _ => ?_, fun h => (Bool.false_ne_true (Eq.trans (Eq.symm h) (by rfl))).elim⟩
                unfold Oper.wpV; (try simp only [applyP, List.nil_append, List.cons_append, List.foldl_cons, List.foldl_nil, Act.put, List.setIfInBounds_toArray, List.set_cons_zero, List.set_cons_succ]); go_simp
                unfold treeGp; rw [show freeT [(7, 6), (8, 7), (9, 7), (11, 8), (11, 10)] [10, 11] = [10] from by decide]; simp only [allL, List.getElem?_cons_zero, List.getElem?_cons_succ, List.erase_cons, beq_self_eq_true, if_true, Nat.reduceBEq, Bool.false_eq_true, if_false, and_true]
                refine ⟨fun _ => ?_, fun h => (Bool.false_ne_true (Eq.trans (Eq.symm h) (by rfl))).elim⟩
                unfold Oper.wpV; (try simp only [applyP, List.nil_append, List.cons_append, List.foldl_cons, List.foldl_nil, Act.put, List.setIfInBounds_toArray, List.set_cons_zero, List.set_cons_succ]); go_simp
                have HQ := hide (pq_box (unhide HS6) (unhide HN6))
                refine ⟨(unhide HQ).kpt, ?_⟩
                generalize World.alloc _ _ = v5 at HQ ⊢
                have hk5 := (unhide HQ).kpt
                unfold treeGp; rw [show freeT [(7, 6), (8, 7), (9, 7), (11, 8), (11, 10)] [11] = [11] from by decide]; simp only [allL, List.getElem?_cons_zero, List.getElem?_cons_succ, List.erase_cons, beq_self_eq_true, if_true, Nat.reduceBEq, Bool.false_eq_true, if_false, and_true]
                refine ⟨fun _ => ?_, fun h => (Bool.false_ne_true (Eq.trans (Eq.symm h) (by rfl))).elim⟩
                have hp := (unhide HQ).at
                have p0 : v5.cell? ⟨v1.heap.size, 0, none⟩ = some (.int .i64 0) := Lib.cell_of_heap hp 0
                have p1 : v5.cell? ⟨v1.heap.size, 1, none⟩ = some (.int .i64 0) := Lib.cell_of_heap hp 1
                have p2 : v5.cell? ⟨v1.heap.size, 2, none⟩ = some (.slice none 0 0) := Lib.cell_of_heap hp 2
                have p3 : v5.cell? ⟨v1.heap.size, 3, none⟩ = some (.slice none 0 0) := Lib.cell_of_heap hp 3
                have p4 : v5.cell? ⟨v1.heap.size, 4, none⟩ = some (.slice none 0 0) := Lib.cell_of_heap hp 4
                have p5 : v5.cell? ⟨v1.heap.size, 5, none⟩ = some (.slice none 0 0) := Lib.cell_of_heap hp 5
                have pf := frz hp
                have HIN := hide ((unhide HQ).store (.int .i64 (T : Int)) (.int .i64 sp) (.slice A len cap) (.slice (some ⟨ρ'.rb, 0, none⟩) T ρ'.rc) (.slice (some ⟨ρ'.sb, 0, none⟩) (G.go len S T (zv j 0) (opz zv j)).n ρ'.sc) (.slice (some ⟨ρ'.fb, 0, none⟩) (G.go len S T (zv j 0) (opz zv j)).n ρ'.fc))
                have HNX := hide (unhide HQ).ne2
                clear hp
                unfold Oper.wpV; (try simp only [applyP, List.nil_append, List.cons_append, List.foldl_cons, List.foldl_nil, Act.put, List.setIfInBounds_toArray, List.set_cons_zero, List.set_cons_succ]); go_simp
                refine and_dep (St.kpts (unhide HIN) (by intro q hq; obtain rfl := List.mem_singleton.1 hq; exact List.mem_cons_of_mem _ (List.mem_append_right _ List.mem_cons_self))) (fun hk6 => ?_)
                generalize World.setCell _ _ _ = v6 at HIN hk6 ⊢
                clear p0 p1 p2 p3 p4 p5 pf
                unfold treeGp; simp only [applyP, List.nil_append, List.cons_append, List.foldl_cons, List.foldl_nil, Act.put, List.setIfInBounds_toArray, List.set_cons_zero, List.set_cons_succ, List.drop_succ_cons, List.drop_zero]
                go_wp2_with fail
                go_meet
                exact ⟨_, rfl, rfl, _, _, HR', HNX, HIN⟩
              · refine ⟨fun _ => ?_, fun h => (Bool.false_ne_true (Eq.trans (Eq.symm h) (by rfl))).elim⟩
                unfold Oper.wpV; (try simp only [applyP, List.nil_append, List.cons_append, List.foldl_cons, List.foldl_nil, Act.put, List.setIfInBounds_toArray, List.set_cons_zero, List.set_cons_succ]); go_simp
                have HQ := hide (pq_box (unhide HS6) (unhide HN6))
                refine ⟨(unhide HQ).kpt, ?_⟩
                generalize World.alloc _ _ = v7 at HQ ⊢
                have hk7 := (unhide HQ).kpt
                unfold treeGp; rw [show freeT [(7, 6), (8, 7), (9, 7), (11, 8), (11, 10)] [9, 11] = [9, 11] from by decide]; simp only [allL, List.getElem?_cons_zero, List.getElem?_cons_succ, List.erase_cons, beq_self_eq_true, if_true, Nat.reduceBEq, Bool.false_eq_true, if_false, and_true]
                refine ⟨?_, ?_⟩
                · refine ⟨fun _ => ?_, fun h => (Bool.false_ne_true (Eq.trans (Eq.symm h) (by rfl))).elim⟩
                  unfold Oper.wpV; (try simp only [applyP, List.nil_append, List.cons_append, List.foldl_cons, List.foldl_nil, Act.put, List.setIfInBounds_toArray, List.set_cons_zero, List.set_cons_succ]); go_simp
                  unfold treeGp; rw [show freeT [(7, 6), (8, 7), (9, 7), (11, 8), (11, 10)] [11] = [11] from by decide]; simp only [allL, List.getElem?_cons_zero, List.getElem?_cons_succ, List.erase_cons, beq_self_eq_true, if_true, Nat.reduceBEq, Bool.false_eq_true, if_false, and_true]
                  refine ⟨fun _ => ?_, fun h => (Bool.false_ne_true (Eq.trans (Eq.symm h) (by rfl))).elim⟩
                  have hp := (unhide HQ).at
                  have p0 : v7.cell? ⟨v1.heap.size, 0, none⟩ = some (.int .i64 0) := Lib.cell_of_heap hp 0
                  have p1 : v7.cell? ⟨v1.heap.size, 1, none⟩ = some (.int .i64 0) := Lib.cell_of_heap hp 1
                  have p2 : v7.cell? ⟨v1.heap.size, 2, none⟩ = some (.slice none 0 0) := Lib.cell_of_heap hp 2
                  have p3 : v7.cell? ⟨v1.heap.size, 3, none⟩ = some (.slice none 0 0) := Lib.cell_of_heap hp 3
                  have p4 : v7.cell? ⟨v1.heap.size, 4, none⟩ = some (.slice none 0 0) := Lib.cell_of_heap hp 4
                  have p5 : v7.cell? ⟨v1.heap.size, 5, none⟩ = some (.slice none 0 0) := Lib.cell_of_heap hp 5
                  have pf := frz hp
                  have HIN := hide ((unhide HQ).store (.int .i64 (T : Int)) (.int .i64 sp) (.slice A len cap) (.slice (some ⟨ρ'.rb, 0, none⟩) T ρ'.rc) (.slice (some ⟨ρ'.sb, 0, none⟩) (G.go len S T (zv j 0) (opz zv j)).n ρ'.sc) (.slice (some ⟨ρ'.fb, 0, none⟩) (G.go len S T (zv j 0) (opz zv j)).n ρ'.fc))
                  have HNX := hide (unhide HQ).ne2
                  clear hp
                  unfold Oper.wpV; (try simp only [applyP, List.nil_append, List.cons_append, List.foldl_cons, List.foldl_nil, Act.put, List.setIfInBounds_toArray, List.set_cons_zero, List.set_cons_succ]); go_simp
                  refine and_dep (St.kpts (unhide HIN) (by intro q hq; obtain rfl := List.mem_singleton.1 hq; exact List.mem_cons_of_mem _ (List.mem_append_right _ List.mem_cons_self))) (fun hk9 => ?_)
                  generalize World.setCell _ _ _ = v9 at HIN hk9 ⊢
                  clear p0 p1 p2 p3 p4 p5 pf
                  unfold treeGp; simp only [applyP, List.nil_append, List.cons_append, List.foldl_cons, List.foldl_nil, Act.put, List.setIfInBounds_toArray, List.set_cons_zero, List.set_cons_succ, List.drop_succ_cons, List.drop_zero]
                  go_wp2_with fail
                  go_meet
                  exact ⟨_, rfl, rfl, _, _, HR', HNX, HIN⟩
                · refine ⟨fun _ => ?_, fun h => (Bool.false_ne_true (Eq.trans (Eq.symm h) (by rfl))).elim⟩
                  have hp := (unhide HQ).at
                  have p0 : v7.cell? ⟨v1.heap.size, 0, none⟩ = some (.int .i64 0) := Lib.cell_of_heap hp 0
                  have p1 : v7.cell? ⟨v1.heap.size, 1, none⟩ = some (.int .i64 0) := Lib.cell_of_heap hp 1
                  have p2 : v7.cell? ⟨v1.heap.size, 2, none⟩ = some (.slice none 0 0) := Lib.cell_of_heap hp 2
                  have p3 : v7.cell? ⟨v1.heap.size, 3, none⟩ = some (.slice none 0 0) := Lib.cell_of_heap hp 3
                  have p4 : v7.cell? ⟨v1.heap.size, 4, none⟩ = some (.slice none 0 0) := Lib.cell_of_heap hp 4
                  have p5 : v7.cell? ⟨v1.heap.size, 5, none⟩ = some (.slice none 0 0) := Lib.cell_of_heap hp 5
                  have pf := frz hp
                  have HIN := hide ((unhide HQ).store (.int .i64 (T : Int)) (.int .i64 sp) (.slice A len cap) (.slice (some ⟨ρ'.rb, 0, none⟩) T ρ'.rc) (.slice (some ⟨ρ'.sb, 0, none⟩) (G.go len S T (zv j 0) (opz zv j)).n ρ'.sc) (.slice (some ⟨ρ'.fb, 0, none⟩) (G.go len S T (zv j 0) (opz zv j)).n ρ'.fc))
                  have HNX := hide (unhide HQ).ne2
                  clear hp
                  unfold Oper.wpV; (try simp only [applyP, List.nil_append, List.cons_append, List.foldl_cons, List.foldl_nil, Act.put, List.setIfInBounds_toArray, List.set_cons_zero, List.set_cons_succ]); go_simp
                  refine and_dep (St.kpts (unhide HIN) (by intro q hq; obtain rfl := List.mem_singleton.1 hq; exact List.mem_cons_of_mem _ (List.mem_append_right _ List.mem_cons_self))) (fun hk10 => ?_)
                  generalize World.setCell _ _ _ = v10 at HIN hk10 ⊢
                  clear p0 p1 p2 p3 p4 p5 pf
                  unfold treeGp; rw [show freeT [(7, 6), (8, 7), (9, 7), (11, 8), (11, 10)] [9] = [9] from by decide]; simp only [allL, List.getElem?_cons_zero, List.getElem?_cons_succ, List.erase_cons, beq_self_eq_true, if_true, Nat.reduceBEq, Bool.false_eq_true, if_false, and_true]
                  refine ⟨fun _ => ?_, fun h => (Bool.false_ne_true (Eq.trans (Eq.symm h) (by rfl))).elim⟩
                  unfold Oper.wpV; (try simp only [applyP, List.nil_append, List.cons_append, List.foldl_cons, List.foldl_nil, Act.put, List.setIfInBounds_toArray, List.set_cons_zero, List.set_cons_succ]); go_simp
                  unfold treeGp; simp only [applyP, List.nil_append, List.cons_append, List.foldl_cons, List.foldl_nil, Act.put, List.setIfInBounds_toArray, List.set_cons_zero, List.set_cons_succ, List.drop_succ_cons, List.drop_zero]
                  go_wp2_with fail
                  go_meet
                  exact ⟨_, rfl, rfl, _, _, HR', HNX, HIN⟩
            · refine ⟨fun _ => ?_, fun h => (Bool.false_ne_true (Eq.trans (Eq.symm h) (by rfl))).elim⟩
              unfold Oper.wpV; (try simp only [applyP, List.nil_append, List.cons_append, List.foldl_cons, List.foldl_nil, Act.put, List.setIfInBounds_toArray, List.set_cons_zero, List.set_cons_succ]); go_simp
              unfold treeGp; rw [show freeT [(7, 6), (8, 7), (9, 7), (11, 8), (11, 10)] [8, 10, 11] = [8, 10] from by decide]; simp only [allL, List.getElem?_cons_zero, List.getElem?_cons_succ, List.erase_cons, beq_self_eq_true, if_true, Nat.reduceBEq, Bool.false_eq_true, if_false, and_true]
              refine ⟨?_, ?_⟩
              · refine ⟨fun _ => ?_, fun h => (Bool.false_ne_true (Eq.trans (Eq.symm h) (by rfl))).elim⟩
                unfold Oper.wpV; (try simp only [applyP, List.nil_append, List.cons_append, List.foldl_cons, List.foldl_nil, Act.put, List.setIfInBounds_toArray, List.set_cons_zero, List.set_cons_succ]); go_simp
                unfold treeGp; rw [show freeT [(7, 6), (8, 7), (9, 7), (11, 8), (11, 10)] [10, 11] = [10] from by decide]; simp only [allL, List.getElem?_cons_zero, List.getElem?_cons_succ, List.erase_cons, beq_self_eq_true, if_true, Nat.reduceBEq, Bool.false_eq_true, if_false, and_true]
                refine ⟨fun _ => ?_, fun h => (Bool.false_ne_true (Eq.trans (Eq.symm h) (by rfl))).elim⟩
                unfold Oper.wpV; (try simp only [applyP, List.nil_append, List.cons_append, List.foldl_cons, List.foldl_nil, Act.put, List.setIfInBounds_toArray, List.set_cons_zero, List.set_cons_succ]); go_simp
                have HQ := hide (pq_box (unhide HS6) (unhide HN6))
                refine ⟨(unhide HQ).kpt, ?_⟩
                generalize World.alloc _ _ = v14 at HQ ⊢
                have hk14 := (unhide HQ).kpt
                unfold treeGp; rw [show freeT [(7, 6), (8, 7), (9, 7), (11, 8), (11, 10)] [11] = [11] from by decide]; simp only [allL, List.getElem?_cons_zero, List.getElem?_cons_succ, List.erase_cons, beq_self_eq_true, if_true, Nat.reduceBEq, Bool.false_eq_true, if_false, and_true]
                refine ⟨fun _ => ?_, fun h => (Bool.false_ne_true (Eq.trans (Eq.symm h) (by rfl))).elim⟩
                have hp := (unhide HQ).at
                have p0 : v14.cell? ⟨v1.heap.size, 0, none⟩ = some (.int .i64 0) := Lib.cell_of_heap hp 0
                have p1 : v14.cell? ⟨v1.heap.size, 1, none⟩ = some (.int .i64 0) := Lib.cell_of_heap hp 1
                have p2 : v14.cell? ⟨v1.heap.size, 2, none⟩ = some (.slice none 0 0) := Lib.cell_of_heap hp 2
                have p3 : v14.cell? ⟨v1.heap.size, 3, none⟩ = some (.slice none 0 0) := Lib.cell_of_heap hp 3
                have p4 : v14.cell? ⟨v1.heap.size, 4, none⟩ = some (.slice none 0 0) := Lib.cell_of_heap hp 4
                have p5 : v14.cell? ⟨v1.heap.size, 5, none⟩ = some (.slice none 0 0) := Lib.cell_of_heap hp 5
                have pf := frz hp
                have HIN := hide ((unhide HQ).store (.int .i64 (T : Int)) (.int .i64 sp) (.slice A len cap) (.slice (some ⟨ρ'.rb, 0, none⟩) T ρ'.rc) (.slice (some ⟨ρ'.sb, 0, none⟩) (G.go len S T (zv j 0) (opz zv j)).n ρ'.sc) (.slice (some ⟨ρ'.fb, 0, none⟩) (G.go len S T (zv j 0) (opz zv j)).n ρ'.fc))
                have HNX := hide (unhide HQ).ne2
                clear hp
                unfold Oper.wpV; (try simp only [applyP, List.nil_append, List.cons_append, List.foldl_cons, List.foldl_nil, Act.put, List.setIfInBounds_toArray, List.set_cons_zero, List.set_cons_succ]); go_simp
                refine and_dep (St.kpts (unhide HIN) (by intro q hq; obtain rfl := List.mem_singleton.1 hq; exact List.mem_cons_of_mem _ (List.mem_append_right _ List.mem_cons_self))) (fun hk15 => ?_)
                generalize World.setCell _ _ _ = v15 at HIN hk15 ⊢
                clear p0 p1 p2 p3 p4 p5 pf
                unfold treeGp; simp only [applyP, List.nil_append, List.cons_append, List.foldl_cons, List.foldl_nil, Act.put, List.setIfInBounds_toArray, List.set_cons_zero, List.set_cons_succ, List.drop_succ_cons, List.drop_zero]
                go_wp2_with fail
                go_meet
                exact ⟨_, rfl, rfl, _, _, HR', HNX, HIN⟩
              · refine ⟨fun _ => ?_, fun h => (Bool.false_ne_true (Eq.trans (Eq.symm h) (by rfl))).elim⟩
                unfold Oper.wpV; (try simp only [applyP, List.nil_append, List.cons_append, List.foldl_cons, List.foldl_nil, Act.put, List.setIfInBounds_toArray, List.set_cons_zero, List.set_cons_succ]); go_simp
                have HQ := hide (pq_box (unhide HS6) (unhide HN6))
                refine ⟨(unhide HQ).kpt, ?_⟩
                generalize World.alloc _ _ = v16 at HQ ⊢
                have hk16 := (unhide HQ).kpt
                unfold treeGp; rw [show freeT [(7, 6), (8, 7), (9, 7), (11, 8), (11, 10)] [8, 11] = [8] from by decide]; simp only [allL, List.getElem?_cons_zero, List.getElem?_cons_succ, List.erase_cons, beq_self_eq_true, if_true, Nat.reduceBEq, Bool.false_eq_true, if_false, and_true]
                refine ⟨fun _ => ?_, fun h => (Bool.false_ne_true (Eq.trans (Eq.symm h) (by rfl))).elim⟩
                unfold Oper.wpV; (try simp only [applyP, List.nil_append, List.cons_append, List.foldl_cons, List.foldl_nil, Act.put, List.setIfInBounds_toArray, List.set_cons_zero, List.set_cons_succ]); go_simp
                unfold treeGp; rw [show freeT [(7, 6), (8, 7), (9, 7), (11, 8), (11, 10)] [11] = [11] from by decide]; simp only [allL, List.getElem?_cons_zero, List.getElem?_cons_succ, List.erase_cons, beq_self_eq_true, if_true, Nat.reduceBEq, Bool.false_eq_true, if_false, and_true]
                refine ⟨fun _ => ?_, fun h => (Bool.false_ne_true (Eq.trans (Eq.symm h) (by rfl))).elim⟩
                have hp := (unhide HQ).at
                have p0 : v16.cell? ⟨v1.heap.size, 0, none⟩ = some (.int .i64 0) := Lib.cell_of_heap hp 0
                have p1 : v16.cell? ⟨v1.heap.size, 1, none⟩ = some (.int .i64 0) := Lib.cell_of_heap hp 1
                have p2 : v16.cell? ⟨v1.heap.size, 2, none⟩ = some (.slice none 0 0) := Lib.cell_of_heap hp 2
                have p3 : v16.cell? ⟨v1.heap.size, 3, none⟩ = some (.slice none 0 0) := Lib.cell_of_heap hp 3
                have p4 : v16.cell? ⟨v1.heap.size, 4, none⟩ = some (.slice none 0 0) := Lib.cell_of_heap hp 4
                have p5 : v16.cell? ⟨v1.heap.size, 5, none⟩ = some (.slice none 0 0) := Lib.cell_of_heap hp 5
                have pf := frz hp
                have HIN := hide ((unhide HQ).store (.int .i64 (T : Int)) (.int .i64 sp) (.slice A len cap) (.slice (some ⟨ρ'.rb, 0, none⟩) T ρ'.rc) (.slice (some ⟨ρ'.sb, 0, none⟩) (G.go len S T (zv j 0) (opz zv j)).n ρ'.sc) (.slice (some ⟨ρ'.fb, 0, none⟩) (G.go len S T (zv j 0) (opz zv j)).n ρ'.fc))
                have HNX := hide (unhide HQ).ne2
                clear hp
                unfold Oper.wpV; (try simp only [applyP, List.nil_append, List.cons_append, List.foldl_cons, List.foldl_nil, Act.put, List.setIfInBounds_toArray, List.set_cons_zero, List.set_cons_succ]); go_simp
                refine and_dep (St.kpts (unhide HIN) (by intro q hq; obtain rfl := List.mem_singleton.1 hq; exact List.mem_cons_of_mem _ (List.mem_append_right _ List.mem_cons_self))) (fun hk18 => ?_)
                generalize World.setCell _ _ _ = v18 at HIN hk18 ⊢
                clear p0 p1 p2 p3 p4 p5 pf
                unfold treeGp; simp only [applyP, List.nil_append, List.cons_append, List.foldl_cons, List.foldl_nil, Act.put, List.setIfInBounds_toArray, List.set_cons_zero, List.set_cons_succ, List.drop_succ_cons, List.drop_zero]
                go_wp2_with fail
                go_meet
                exact ⟨_, rfl, rfl, _, _, HR', HNX, HIN⟩
            · refine ⟨fun _ => ?_, fun h => (Bool.false_ne_true (Eq.trans (Eq.symm h) (by rfl))).elim⟩
              unfold Oper.wpV; (try simp only [applyP, List.nil_append, List.cons_append, List.foldl_cons, List.foldl_nil, Act.put, List.setIfInBounds_toArray, List.set_cons_zero, List.set_cons_succ]); go_simp
              have HQ := hide (pq_box (unhide HS6) (unhide HN6))
              refine ⟨(unhide HQ).kpt, ?_⟩
              generalize World.alloc _ _ = v19 at HQ ⊢
              have hk19 := (unhide HQ).kpt
              unfold treeGp; rw [show freeT [(7, 6), (8, 7), (9, 7), (11, 8), (11, 10)] [8, 9, 11] = [8, 9] from by decide]; simp only [allL, List.getElem?_cons_zero, List.getElem?_cons_succ, List.erase_cons, beq_self_eq_true, if_true, Nat.reduceBEq, Bool.false_eq_true, if_false, and_true]
              refine ⟨?_, ?_⟩
              · refine ⟨fun _ => ?_, fun h => (Bool.false_ne_true (Eq.trans (Eq.symm h) (by rfl))).elim⟩
                unfold Oper.wpV; (try simp only [applyP, List.nil_append, List.cons_append, List.foldl_cons, List.foldl_nil, Act.put, List.setIfInBounds_toArray, List.set_cons_zero, List.set_cons_succ]); go_simp
                unfold treeGp; rw [show freeT [(7, 6), (8, 7), (9, 7), (11, 8), (11, 10)] [9, 11] = [9, 11] from by decide]; simp only [allL, List.getElem?_cons_zero, List.getElem?_cons_succ, List.erase_cons, beq_self_eq_true, if_true, Nat.reduceBEq, Bool.false_eq_true, if_false, and_true]
                refine ⟨?_, ?_⟩
                · refine ⟨fun _ => ?_, fun h => (Bool.false_ne_true (Eq.trans (Eq.symm h) (by rfl))).elim⟩
                  unfold Oper.wpV; (try simp only [applyP, List.nil_append, List.cons_append, List.foldl_cons, List.foldl_nil, Act.put, List.setIfInBounds_toArray, List.set_cons_zero, List.set_cons_succ]); go_simp
                  unfold treeGp; rw [show freeT [(7, 6), (8, 7), (9, 7), (11, 8), (11, 10)] [11] = [11] from by decide]; simp only [allL, List.getElem?_cons_zero, List.getElem?_cons_succ, List.erase_cons, beq_self_eq_true, if_true, Nat.reduceBEq, Bool.false_eq_true, if_false, and_true]
                  refine ⟨fun _ => ?_, fun h => (Bool.false_ne_true (Eq.trans (Eq.symm h) (by rfl))).elim⟩
                  have hp := (unhide HQ).at
                  have p0 : v19.cell? ⟨v1.heap.size, 0, none⟩ = some (.int .i64 0) := Lib.cell_of_heap hp 0
                  have p1 : v19.cell? ⟨v1.heap.size, 1, none⟩ = some (.int .i64 0) := Lib.cell_of_heap hp 1
                  have p2 : v19.cell? ⟨v1.heap.size, 2, none⟩ = some (.slice none 0 0) := Lib.cell_of_heap hp 2
                  have p3 : v19.cell? ⟨v1.heap.size, 3, none⟩ = some (.slice none 0 0) := Lib.cell_of_heap hp 3
                  have p4 : v19.cell? ⟨v1.heap.size, 4, none⟩ = some (.slice none 0 0) := Lib.cell_of_heap hp 4
                  have p5 : v19.cell? ⟨v1.heap.size, 5, none⟩ = some (.slice none 0 0) := Lib.cell_of_heap hp 5
                  have pf := frz hp
                  have HIN := hide ((unhide HQ).store (.int .i64 (T : Int)) (.int .i64 sp) (.slice A len cap) (.slice (some ⟨ρ'.rb, 0, none⟩) T ρ'.rc) (.slice (some ⟨ρ'.sb, 0, none⟩) (G.go len S T (zv j 0) (opz zv j)).n ρ'.sc) (.slice (some ⟨ρ'.fb, 0, none⟩) (G.go len S T (zv j 0) (opz zv j)).n ρ'.fc))
                  have HNX := hide (unhide HQ).ne2
                  clear hp
                  unfold Oper.wpV; (try simp only [applyP, List.nil_append, List.cons_append, List.foldl_cons, List.foldl_nil, Act.put, List.setIfInBounds_toArray, List.set_cons_zero, List.set_cons_succ]); go_simp
                  refine and_dep (St.kpts (unhide HIN) (by intro q hq; obtain rfl := List.mem_singleton.1 hq; exact List.mem_cons_of_mem _ (List.mem_append_right _ List.mem_cons_self))) (fun hk22 => ?_)
                  generalize World.setCell _ _ _ = v22 at HIN hk22 ⊢
                  clear p0 p1 p2 p3 p4 p5 pf
                  unfold treeGp; simp only [applyP, List.nil_append, List.cons_append, List.foldl_cons, List.foldl_nil, Act.put, List.setIfInBounds_toArray, List.set_cons_zero, List.set_cons_succ, List.drop_succ_cons, List.drop_zero]
                  go_wp2_with fail
                  go_meet
                  exact ⟨_, rfl, rfl, _, _, HR', HNX, HIN⟩
                · refine ⟨fun _ => ?_, fun h => (Bool.false_ne_true (Eq.trans (Eq.symm h) (by rfl))).elim⟩
                  have hp := (unhide HQ).at
                  have p0 : v19.cell? ⟨v1.heap.size, 0, none⟩ = some (.int .i64 0) := Lib.cell_of_heap hp 0
                  have p1 : v19.cell? ⟨v1.heap.size, 1, none⟩ = some (.int .i64 0) := Lib.cell_of_heap hp 1
                  have p2 : v19.cell? ⟨v1.heap.size, 2, none⟩ = some (.slice none 0 0) := Lib.cell_of_heap hp 2
                  have p3 : v19.cell? ⟨v1.heap.size, 3, none⟩ = some (.slice none 0 0) := Lib.cell_of_heap hp 3
                  have p4 : v19.cell? ⟨v1.heap.size, 4, none⟩ = some (.slice none 0 0) := Lib.cell_of_heap hp 4
                  have p5 : v19.cell? ⟨v1.heap.size, 5, none⟩ = some (.slice none 0 0) := Lib.cell_of_heap hp 5
                  have pf := frz hp
                  have HIN := hide ((unhide HQ).store (.int .i64 (T : Int)) (.int .i64 sp) (.slice A len cap) (.slice (some ⟨ρ'.rb, 0, none⟩) T ρ'.rc) (.slice (some ⟨ρ'.sb, 0, none⟩) (G.go len S T (zv j 0) (opz zv j)).n ρ'.sc) (.slice (some ⟨ρ'.fb, 0, none⟩) (G.go len S T (zv j 0) (opz zv j)).n ρ'.fc))
                  have HNX := hide (unhide HQ).ne2
                  clear hp
                  unfold Oper.wpV; (try simp only [applyP, List.nil_append, List.cons_append, List.foldl_cons, List.foldl_nil, Act.put, List.setIfInBounds_toArray, List.set_cons_zero, List.set_cons_succ]); go_simp
                  refine and_dep (St.kpts (unhide HIN) (by intro q hq; obtain rfl := List.mem_singleton.1 hq; exact List.mem_cons_of_mem _ (List.mem_append_right _ List.mem_cons_self))) (fun hk23 => ?_)
                  generalize World.setCell _ _ _ = v23 at HIN hk23 ⊢
                  clear p0 p1 p2 p3 p4 p5 pf
                  unfold treeGp; rw [show freeT [(7, 6), (8, 7), (9, 7), (11, 8), (11, 10)] [9] = [9] from by decide]; simp only [allL, List.getElem?_cons_zero, List.getElem?_cons_succ, List.erase_cons, beq_self_eq_true, if_true, Nat.reduceBEq, Bool.false_eq_true, if_false, and_true]
                  refine ⟨fun _ => ?_, fun h => (Bool.false_ne_true (Eq.trans (Eq.symm h) (by rfl))).elim⟩
                  unfold Oper.wpV; (try simp only [applyP, List.nil_append, List.cons_append, List.foldl_cons, List.foldl_nil, Act.put, List.setIfInBounds_toArray, List.set_cons_zero, List.set_cons_succ]); go_simp
                  unfold treeGp; simp only [applyP, List.nil_append, List.cons_append, List.foldl_cons, List.foldl_nil, Act.put, List.setIfInBounds_toArray, List.set_cons_zero, List.set_cons_succ, List.drop_succ_cons, List.drop_zero]
                  go_wp2_with fail
                  go_meet
                  exact ⟨_, rfl, rfl, _, _, HR', HNX, HIN⟩
              · refine ⟨fun _ => ?_, fun h => (Bool.false_ne_true (Eq.trans (Eq.symm h) (by rfl))).elim⟩
                unfold Oper.wpV; (try simp only [applyP, List.nil_append, List.cons_append, List.foldl_cons, List.foldl_nil, Act.put, List.setIfInBounds_toArray, List.set_cons_zero, List.set_cons_succ]); go_simp
                unfold treeGp; rw [show freeT [(7, 6), (8, 7), (9, 7), (11, 8), (11, 10)] [8, 11] = [8] from by decide]; simp only [allL, List.getElem?_cons_zero, List.getElem?_cons_succ, List.erase_cons, beq_self_eq_true, if_true, Nat.reduceBEq, Bool.false_eq_true, if_false, and_true]
                refine ⟨fun _ => ?_, fun h => (Bool.false_ne_true (Eq.trans (Eq.symm h) (by rfl))).elim⟩
                unfold Oper.wpV; (try simp only [applyP, List.nil_append, List.cons_append, List.foldl_cons, List.foldl_nil, Act.put, List.setIfInBounds_toArray, List.set_cons_zero, List.set_cons_succ]); go_simp
                unfold treeGp; rw [show freeT [(7, 6), (8, 7), (9, 7), (11, 8), (11, 10)] [11] = [11] from by decide]; simp only [allL, List.getElem?_cons_zero, List.getElem?_cons_succ, List.erase_cons, beq_self_eq_true, if_true, Nat.reduceBEq, Bool.false_eq_true, if_false, and_true]
                refine ⟨fun _ => ?_, fun h => (Bool.false_ne_true (Eq.trans (Eq.symm h) (by rfl))).elim⟩
                have hp := (unhide HQ).at
                have p0 : v19.cell? ⟨v1.heap.size, 0, none⟩ = some (.int .i64 0) := Lib.cell_of_heap hp 0
                have p1 : v19.cell? ⟨v1.heap.size, 1, none⟩ = some (.int .i64 0) := Lib.cell_of_heap hp 1
                have p2 : v19.cell? ⟨v1.heap.size, 2, none⟩ = some (.slice none 0 0) := Lib.cell_of_heap hp 2
                have p3 : v19.cell? ⟨v1.heap.size, 3, none⟩ = some (.slice none 0 0) := Lib.cell_of_heap hp 3
                have p4 : v19.cell? ⟨v1.heap.size, 4, none⟩ = some (.slice none 0 0) := Lib.cell_of_heap hp 4
                have p5 : v19.cell? ⟨v1.heap.size, 5, none⟩ = some (.slice none 0 0) := Lib.cell_of_heap hp 5
                have pf := frz hp
                have HIN := hide ((unhide HQ).store (.int .i64 (T : Int)) (.int .i64 sp) (.slice A len cap) (.slice (some ⟨ρ'.rb, 0, none⟩) T ρ'.rc) (.slice (some ⟨ρ'.sb, 0, none⟩) (G.go len S T (zv j 0) (opz zv j)).n ρ'.sc) (.slice (some ⟨ρ'.fb, 0, none⟩) (G.go len S T (zv j 0) (opz zv j)).n ρ'.fc))
                have HNX := hide (unhide HQ).ne2
                clear hp
                unfold Oper.wpV; (try simp only [applyP, List.nil_append, List.cons_append, List.foldl_cons, List.foldl_nil, Act.put, List.setIfInBounds_toArray, List.set_cons_zero, List.set_cons_succ]); go_simp
                refine and_dep (St.kpts (unhide HIN) (by intro q hq; obtain rfl := List.mem_singleton.1 hq; exact List.mem_cons_of_mem _ (List.mem_append_right _ List.mem_cons_self))) (fun hk27 => ?_)
                generalize World.setCell _ _ _ = v27 at HIN hk27 ⊢
                clear p0 p1 p2 p3 p4 p5 pf
                unfold treeGp; simp only [applyP, List.nil_append, List.cons_append, List.foldl_cons, List.foldl_nil, Act.put, List.setIfInBounds_toArray, List.set_cons_zero, List.set_cons_succ, List.drop_succ_cons, List.drop_zero]
                go_wp2_with fail
                go_meet
                exact ⟨_, rfl, rfl, _, _, HR', HNX, HIN⟩
          · refine ⟨fun _ => ?_, fun h => (Bool.false_ne_true (Eq.trans (Eq.symm h) (by rfl))).elim⟩
            unfold Oper.wpV; (try simp only [applyP, List.nil_append, List.cons_append, List.foldl_cons, List.foldl_nil, Act.put, List.setIfInBounds_toArray, List.set_cons_zero, List.set_cons_succ]); go_simp
            have HQ := hide (pq_box (unhide HS6) (unhide HN6))
            refine ⟨(unhide HQ).kpt, ?_⟩
            generalize World.alloc _ _ = v28 at HQ ⊢
            have hk28 := (unhide HQ).kpt
            unfold treeGp; rw [show freeT [(7, 6), (8, 7), (9, 7), (11, 8), (11, 10)] [7, 8, 9, 11] = [7] from by decide]; simp only [allL, List.getElem?_cons_zero, List.getElem?_cons_succ, List.erase_cons, beq_self_eq_true, if_true, Nat.reduceBEq, Bool.false_eq_true, if_false, and_true]
            refine ⟨fun _ => ?_, fun h => (Bool.false_ne_true (Eq.trans (Eq.symm h) (by rfl))).elim⟩
            unfold Oper.wpV; (try simp only [applyP, List.nil_append, List.cons_append, List.foldl_cons, List.foldl_nil, Act.put, List.setIfInBounds_toArray, List.set_cons_zero, List.set_cons_succ]); go_simp
            unfold treeGp; rw [show freeT [(7, 6), (8, 7), (9, 7), (11, 8), (11, 10)] [8, 9, 11] = [8, 9] from by decide]; simp only [allL, List.getElem?_cons_zero, List.getElem?_cons_succ, List.erase_cons, beq_self_eq_true, if_true, Nat.reduceBEq, Bool.false_eq_true, if_false, and_true]
            refine ⟨?_, ?_⟩
            · refine ⟨fun _ => ?_, fun h => (Bool.false_ne_true (Eq.trans (Eq.symm h) (by rfl))).elim⟩
              unfold Oper.wpV; (try simp only [applyP, List.nil_append, List.cons_append, List.foldl_cons, List.foldl_nil, Act.put, List.setIfInBounds_toArray, List.set_cons_zero, List.set_cons_succ]); go_simp
              unfold treeGp; rw [show freeT [(7, 6), (8, 7), (9, 7), (11, 8), (11, 10)] [9, 11] = [9, 11] from by decide]; simp only [allL, List.getElem?_cons_zero, List.getElem?_cons_succ, List.erase_cons, beq_self_eq_true, if_true, Nat.reduceBEq, Bool.false_eq_true, if_false, and_true]
              refine ⟨?_, ?_⟩
              · refine ⟨fun _ => ?_, fun h => (Bool.false_ne_true (Eq.trans (Eq.symm h) (by rfl))).elim⟩
                unfold Oper.wpV; (try simp only [applyP, List.nil_append, List.cons_append, List.foldl_cons, List.foldl_nil, Act.put, List.setIfInBounds_toArray, List.set_cons_zero, List.set_cons_succ]); go_simp
                unfold treeGp; rw [show freeT [(7, 6), (8, 7), (9, 7), (11, 8), (11, 10)] [11] = [11] from by decide]; simp only [allL, List.getElem?_cons_zero, List.getElem?_cons_succ, List.erase_cons, beq_self_eq_true, if_true, Nat.reduceBEq, Bool.false_eq_true, if_false, and_true]
                refine ⟨fun _ => ?_, fun h => (Bool.false_ne_true (Eq.trans (Eq.symm h) (by rfl))).elim⟩
                have hp := (unhide HQ).at
                have p0 : v28.cell? ⟨v1.heap.size, 0, none⟩ = some (.int .i64 0) := Lib.cell_of_heap hp 0
                have p1 : v28.cell? ⟨v1.heap.size, 1, none⟩ = some (.int .i64 0) := Lib.cell_of_heap hp 1
                have p2 : v28.cell? ⟨v1.heap.size, 2, none⟩ = some (.slice none 0 0) := Lib.cell_of_heap hp 2
                have p3 : v28.cell? ⟨v1.heap.size, 3, none⟩ = some (.slice none 0 0) := Lib.cell_of_heap hp 3
                have p4 : v28.cell? ⟨v1.heap.size, 4, none⟩ = some (.slice none 0 0) := Lib.cell_of_heap hp 4
                have p5 : v28.cell? ⟨v1.heap.size, 5, none⟩ = some (.slice none 0 0) := Lib.cell_of_heap hp 5
                have pf := frz hp
                have HIN := hide ((unhide HQ).store (.int .i64 (T : Int)) (.int .i64 sp) (.slice A len cap) (.slice (some ⟨ρ'.rb, 0, none⟩) T ρ'.rc) (.slice (some ⟨ρ'.sb, 0, none⟩) (G.go len S T (zv j 0) (opz zv j)).n ρ'.sc) (.slice (some ⟨ρ'.fb, 0, none⟩) (G.go len S T (zv j 0) (opz zv j)).n ρ'.fc))
                have HNX := hide (unhide HQ).ne2
                clear hp
                unfold Oper.wpV; (try simp only [applyP, List.nil_append, List.cons_append, List.foldl_cons, List.foldl_nil, Act.put, List.setIfInBounds_toArray, List.set_cons_zero, List.set_cons_succ]); go_simp
                refine and_dep (St.kpts (unhide HIN) (by intro q hq; obtain rfl := List.mem_singleton.1 hq; exact List.mem_cons_of_mem _ (List.mem_append_right _ List.mem_cons_self))) (fun hk32 => ?_)
                generalize World.setCell _ _ _ = v32 at HIN hk32 ⊢
                clear p0 p1 p2 p3 p4 p5 pf
                unfold treeGp; simp only [applyP, List.nil_append, List.cons_append, List.foldl_cons, List.foldl_nil, Act.put, List.setIfInBounds_toArray, List.set_cons_zero, List.set_cons_succ, List.drop_succ_cons, List.drop_zero]
                go_wp2_with fail
                go_meet
                exact ⟨_, rfl, rfl, _, _, HR', HNX, HIN⟩
              · refine ⟨fun _ => ?_, fun h => (Bool.false_ne_true (Eq.trans (Eq.symm h) (by rfl))).elim⟩
                have hp := (unhide HQ).at
                have p0 : v28.cell? ⟨v1.heap.size, 0, none⟩ = some (.int .i64 0) := Lib.cell_of_heap hp 0
                have p1 : v28.cell? ⟨v1.heap.size, 1, none⟩ = some (.int .i64 0) := Lib.cell_of_heap hp 1
                have p2 : v28.cell? ⟨v1.heap.size, 2, none⟩ = some (.slice none 0 0) := Lib.cell_of_heap hp 2
                have p3 : v28.cell? ⟨v1.heap.size, 3, none⟩ = some (.slice none 0 0) := Lib.cell_of_heap hp 3
                have p4 : v28.cell? ⟨v1.heap.size, 4, none⟩ = some (.slice none 0 0) := Lib.cell_of_heap hp 4
                have p5 : v28.cell? ⟨v1.heap.size, 5, none⟩ = some (.slice none 0 0) := Lib.cell_of_heap hp 5
                have pf := frz hp
                have HIN := hide ((unhide HQ).store (.int .i64 (T : Int)) (.int .i64 sp) (.slice A len cap) (.slice (some ⟨ρ'.rb, 0, none⟩) T ρ'.rc) (.slice (some ⟨ρ'.sb, 0, none⟩) (G.go len S T (zv j 0) (opz zv j)).n ρ'.sc) (.slice (some ⟨ρ'.fb, 0, none⟩) (G.go len S T (zv j 0) (opz zv j)).n ρ'.fc))
                have HNX := hide (unhide HQ).ne2
                clear hp
                unfold Oper.wpV; (try simp only [applyP, List.nil_append, List.cons_append, List.foldl_cons, List.foldl_nil, Act.put, List.setIfInBounds_toArray, List.set_cons_zero, List.set_cons_succ]); go_simp
                refine and_dep (St.kpts (unhide HIN) (by intro q hq; obtain rfl := List.mem_singleton.1 hq; exact List.mem_cons_of_mem _ (List.mem_append_right _ List.mem_cons_self))) (fun hk33 => ?_)
                generalize World.setCell _ _ _ = v33 at HIN hk33 ⊢
                clear p0 p1 p2 p3 p4 p5 pf
                unfold treeGp; rw [show freeT [(7, 6), (8, 7), (9, 7), (11, 8), (11, 10)] [9] = [9] from by decide]; simp only [allL, List.getElem?_cons_zero, List.getElem?_cons_succ, List.erase_cons, beq_self_eq_true, if_true, Nat.reduceBEq, Bool.false_eq_true, if_false, and_true]
                refine ⟨fun _ => ?_, fun h => (Bool.false_ne_true (Eq.trans (Eq.symm h) (by rfl))).elim⟩
                unfold Oper.wpV; (try simp only [applyP, List.nil_append, List.cons_append, List.foldl_cons, List.foldl_nil, Act.put, List.setIfInBounds_toArray, List.set_cons_zero, List.set_cons_succ]); go_simp
                unfold treeGp; simp only [applyP, List.nil_append, List.cons_append, List.foldl_cons, List.foldl_nil, Act.put, List.setIfInBounds_toArray, List.set_cons_zero, List.set_cons_succ, List.drop_succ_cons, List.drop_zero]
                go_wp2_with fail
                go_meet
                exact ⟨_, rfl, rfl, _, _, HR', HNX, HIN⟩
            · refine ⟨fun _ => ?_, fun h => (Bool.false_ne_true (Eq.trans (Eq.symm h) (by rfl))).elim⟩
              unfold Oper.wpV; (try simp only [applyP, List.nil_append, List.cons_append, List.foldl_cons, List.foldl_nil, Act.put, List.setIfInBounds_toArray, List.set_cons_zero, List.set_cons_succ]); go_simp
              unfold treeGp; rw [show freeT [(7, 6), (8, 7), (9, 7), (11, 8), (11, 10)] [8, 11] = [8] from by decide]; simp only [allL, List.getElem?_cons_zero, List.getElem?_cons_succ, List.erase_cons, beq_self_eq_true, if_true, Nat.reduceBEq, Bool.false_eq_true, if_false, and_true]
              refine ⟨fun _ => ?_, fun h => (Bool.false_ne_true (Eq.trans (Eq.symm h) (by rfl))).elim⟩
              unfold Oper.wpV; (try simp only [applyP, List.nil_append, List.cons_append, List.foldl_cons, List.foldl_nil, Act.put, List.setIfInBounds_toArray, List.set_cons_zero, List.set_cons_succ]); go_simp
              unfold treeGp; rw [show freeT [(7, 6), (8, 7), (9, 7), (11, 8), (11, 10)] [11] = [11] from by decide]; simp only [allL, List.getElem?_cons_zero, List.getElem?_cons_succ, List.erase_cons, beq_self_eq_true, if_true, Nat.reduceBEq, Bool.false_eq_true, if_false, and_true]
              refine ⟨fun _ => ?_, fun h => (Bool.false_ne_true (Eq.trans (Eq.symm h) (by rfl))).elim⟩
              have hp := (unhide HQ).at
              have p0 : v28.cell? ⟨v1.heap.size, 0, none⟩ = some (.int .i64 0) := Lib.cell_of_heap hp 0
              have p1 : v28.cell? ⟨v1.heap.size, 1, none⟩ = some (.int .i64 0) := Lib.cell_of_heap hp 1
              have p2 : v28.cell? ⟨v1.heap.size, 2, none⟩ = some (.slice none 0 0) := Lib.cell_of_heap hp 2
              have p3 : v28.cell? ⟨v1.heap.size, 3, none⟩ = some (.slice none 0 0) := Lib.cell_of_heap hp 3
              have p4 : v28.cell? ⟨v1.heap.size, 4, none⟩ = some (.slice none 0 0) := Lib.cell_of_heap hp 4
              have p5 : v28.cell? ⟨v1.heap.size, 5, none⟩ = some (.slice none 0 0) := Lib.cell_of_heap hp 5
              have pf := frz hp
              have HIN := hide ((unhide HQ).store (.int .i64 (T : Int)) (.int .i64 sp) (.slice A len cap) (.slice (some ⟨ρ'.rb, 0, none⟩) T ρ'.rc) (.slice (some ⟨ρ'.sb, 0, none⟩) (G.go len S T (zv j 0) (opz zv j)).n ρ'.sc) (.slice (some ⟨ρ'.fb, 0, none⟩) (G.go len S T (zv j 0) (opz zv j)).n ρ'.fc))
              have HNX := hide (unhide HQ).ne2
              clear hp
              unfold Oper.wpV; (try simp only [applyP, List.nil_append, List.cons_append, List.foldl_cons, List.foldl_nil, Act.put, List.setIfInBounds_toArray, List.set_cons_zero, List.set_cons_succ]); go_simp
              refine and_dep (St.kpts (unhide HIN) (by intro q hq; obtain rfl := List.mem_singleton.1 hq; exact List.mem_cons_of_mem _ (List.mem_append_right _ List.mem_cons_self))) (fun hk37 => ?_)
              generalize World.setCell _ _ _ = v37 at HIN hk37 ⊢
              clear p0 p1 p2 p3 p4 p5 pf
              unfold treeGp; simp only [applyP, List.nil_append, List.cons_append, List.foldl_cons, List.foldl_nil, Act.put, List.setIfInBounds_toArray, List.set_cons_zero, List.set_cons_succ, List.drop_succ_cons, List.drop_zero]
              go_wp2_with fail
              go_meet
              exact ⟨_, rfl, rfl, _, _, HR', HNX, HIN⟩
        · refine ⟨fun _ => ?_, fun h => (Bool.false_ne_true (Eq.trans (Eq.symm h) (by rfl))).elim⟩
          unfold Oper.wpV; (try simp only [applyP, List.nil_append, List.cons_append, List.foldl_cons, List.foldl_nil, Act.put, List.setIfInBounds_toArray, List.set_cons_zero, List.set_cons_succ]); go_simp
          have hba : IsKpt w2 [(tb, .cells #[.int .i64 (T : Int), .int .i64 sp, .slice A len cap, .slice (some ⟨ρ.rb, 0, none⟩) T ρ.rc, .slice (some ⟨ρ.sb, 0, none⟩) G.n ρ.sc, .slice (some ⟨ρ.fb, 0, none⟩) G.n ρ.fc] 49 (0, 0))] (v0.alloc (.cells #[.int .i64 0, .int .i64 0, .slice none 0 0, .slice none 0 0, .slice none 0 0, .slice none 0 0] 49)) := hk.below ((Below.refl _ _).alloc (Nat.le_refl _) _)
          refine ⟨hba, ?_⟩
          generalize hal : World.alloc _ _ = v38
          rw [hal] at hba
          have HAL := hide hal
          clear hal
          unfold treeGp; rw [show freeT [(7, 6), (8, 7), (9, 7), (11, 8), (11, 10)] [6, 7, 8, 9, 11] = [6] from by decide]; simp only [allL, List.getElem?_cons_zero, List.getElem?_cons_succ, List.erase_cons, beq_self_eq_true, if_true, Nat.reduceBEq, Bool.false_eq_true, if_false, and_true]
          refine ⟨fun _ => ?_, fun h => (Bool.false_ne_true (Eq.trans (Eq.symm h) (by rfl))).elim⟩
          unfold Oper.wpV; (try simp only [applyP, List.nil_append, List.cons_append, List.foldl_cons, List.foldl_nil, Act.put, List.setIfInBounds_toArray, List.set_cons_zero, List.set_cons_succ]); go_simp
          refine (pq_does' (unhide H0v) (unhide HNE) (unhide HR) (unhide HSW) (unhide HN1) (unhide HN2) (zv j 0) (opz zv j) (unhide HAL)).mono ?_
          rintro e v39 ⟨ρ', lr', rfl, hR', hs39⟩
          have hk39 := hs39.kpt
          refine ⟨_, rfl, hk39, ?_⟩
          have HR' := hide hR'
          have HQ := hide hs39
          clear hR' hs39
          unfold rV
          unfold treeGp; rw [show freeT [(7, 6), (8, 7), (9, 7), (11, 8), (11, 10)] [7, 8, 9, 11] = [7] from by decide]; simp only [allL, List.getElem?_cons_zero, List.getElem?_cons_succ, List.erase_cons, beq_self_eq_true, if_true, Nat.reduceBEq, Bool.false_eq_true, if_false, and_true]
          refine ⟨fun _ => ?_, fun h => (Bool.false_ne_true (Eq.trans (Eq.symm h) (by rfl))).elim⟩
          unfold Oper.wpV; (try simp only [applyP, List.nil_append, List.cons_append, List.foldl_cons, List.foldl_nil, Act.put, List.setIfInBounds_toArray, List.set_cons_zero, List.set_cons_succ]); go_simp
          unfold treeGp; rw [show freeT [(7, 6), (8, 7), (9, 7), (11, 8), (11, 10)] [8, 9, 11] = [8, 9] from by decide]; simp only [allL, List.getElem?_cons_zero, List.getElem?_cons_succ, List.erase_cons, beq_self_eq_true, if_true, Nat.reduceBEq, Bool.false_eq_true, if_false, and_true]
          refine ⟨?_, ?_⟩
          · refine ⟨fun _ => ?_, fun h => (Bool.false_ne_true (Eq.trans (Eq.symm h) (by rfl))).elim⟩
            unfold Oper.wpV; (try simp only [applyP, List.nil_append, List.cons_append, List.foldl_cons, List.foldl_nil, Act.put, List.setIfInBounds_toArray, List.set_cons_zero, List.set_cons_succ]); go_simp
            unfold treeGp; rw [show freeT [(7, 6), (8, 7), (9, 7), (11, 8), (11, 10)] [9, 11] = [9, 11] from by decide]; simp only [allL, List.getElem?_cons_zero, List.getElem?_cons_succ, List.erase_cons, beq_self_eq_true, if_true, Nat.reduceBEq, Bool.false_eq_true, if_false, and_true]
            refine ⟨?_, ?_⟩
            · refine ⟨fun _ => ?_, fun h => (Bool.false_ne_true (Eq.trans (Eq.symm h) (by rfl))).elim⟩
              unfold Oper.wpV; (try simp only [applyP, List.nil_append, List.cons_append, List.foldl_cons, List.foldl_nil, Act.put, List.setIfInBounds_toArray, List.set_cons_zero, List.set_cons_succ]); go_simp
              unfold treeGp; rw [show freeT [(7, 6), (8, 7), (9, 7), (11, 8), (11, 10)] [11] = [11] from by decide]; simp only [allL, List.getElem?_cons_zero, List.getElem?_cons_succ, List.erase_cons, beq_self_eq_true, if_true, Nat.reduceBEq, Bool.false_eq_true, if_false, and_true]
              refine ⟨fun _ => ?_, fun h => (Bool.false_ne_true (Eq.trans (Eq.symm h) (by rfl))).elim⟩
              have hp := (unhide HQ).at
              have p0 : v39.cell? ⟨v0.heap.size, 0, none⟩ = some (.int .i64 0) := Lib.cell_of_heap hp 0
              have p1 : v39.cell? ⟨v0.heap.size, 1, none⟩ = some (.int .i64 0) := Lib.cell_of_heap hp 1
              have p2 : v39.cell? ⟨v0.heap.size, 2, none⟩ = some (.slice none 0 0) := Lib.cell_of_heap hp 2
              have p3 : v39.cell? ⟨v0.heap.size, 3, none⟩ = some (.slice none 0 0) := Lib.cell_of_heap hp 3
              have p4 : v39.cell? ⟨v0.heap.size, 4, none⟩ = some (.slice none 0 0) := Lib.cell_of_heap hp 4
              have p5 : v39.cell? ⟨v0.heap.size, 5, none⟩ = some (.slice none 0 0) := Lib.cell_of_heap hp 5
              have pf := frz hp
              have HIN := hide ((unhide HQ).store (.int .i64 (T : Int)) (.int .i64 sp) (.slice A len cap) (.slice (some ⟨ρ'.rb, 0, none⟩) T ρ'.rc) (.slice (some ⟨ρ'.sb, 0, none⟩) (G.go len S T (zv j 0) (opz zv j)).n ρ'.sc) (.slice (some ⟨ρ'.fb, 0, none⟩) (G.go len S T (zv j 0) (opz zv j)).n ρ'.fc))
              have HNX := hide (unhide HQ).ne2
              clear hp
              unfold Oper.wpV; (try simp only [applyP, List.nil_append, List.cons_append, List.foldl_cons, List.foldl_nil, Act.put, List.setIfInBounds_toArray, List.set_cons_zero, List.set_cons_succ]); go_simp
              refine and_dep (St.kpts (unhide HIN) (by intro q hq; obtain rfl := List.mem_singleton.1 hq; exact List.mem_cons_of_mem _ (List.mem_append_right _ List.mem_cons_self))) (fun hk43 => ?_)
              generalize World.setCell _ _ _ = v43 at HIN hk43 ⊢
              clear p0 p1 p2 p3 p4 p5 pf
              unfold treeGp; simp only [applyP, List.nil_append, List.cons_append, List.foldl_cons, List.foldl_nil, Act.put, List.setIfInBounds_toArray, List.set_cons_zero, List.set_cons_succ, List.drop_succ_cons, List.drop_zero]
              go_wp2_with fail
              go_meet
              exact ⟨_, rfl, rfl, _, _, HR', HNX, HIN⟩
            · refine ⟨fun _ => ?_, fun h => (Bool.false_ne_true (Eq.trans (Eq.symm h) (by rfl))).elim⟩
              have hp := (unhide HQ).at
              have p0 : v39.cell? ⟨v0.heap.size, 0, none⟩ = some (.int .i64 0) := Lib.cell_of_heap hp 0
              have p1 : v39.cell? ⟨v0.heap.size, 1, none⟩ = some (.int .i64 0) := Lib.cell_of_heap hp 1
              have p2 : v39.cell? ⟨v0.heap.size, 2, none⟩ = some (.slice none 0 0) := Lib.cell_of_heap hp 2
              have p3 : v39.cell? ⟨v0.heap.size, 3, none⟩ = some (.slice none 0 0) := Lib.cell_of_heap hp 3
              have p4 : v39.cell? ⟨v0.heap.size, 4, none⟩ = some (.slice none 0 0) := Lib.cell_of_heap hp 4
              have p5 : v39.cell? ⟨v0.heap.size, 5, none⟩ = some (.slice none 0 0) := Lib.cell_of_heap hp 5
              have pf := frz hp
              have HIN := hide ((unhide HQ).store (.int .i64 (T : Int)) (.int .i64 sp) (.slice A len cap) (.slice (some ⟨ρ'.rb, 0, none⟩) T ρ'.rc) (.slice (some ⟨ρ'.sb, 0, none⟩) (G.go len S T (zv j 0) (opz zv j)).n ρ'.sc) (.slice (some ⟨ρ'.fb, 0, none⟩) (G.go len S T (zv j 0) (opz zv j)).n ρ'.fc))
              have HNX := hide (unhide HQ).ne2
              clear hp
              unfold Oper.wpV; (try simp only [applyP, List.nil_append, List.cons_append, List.foldl_cons, List.foldl_nil, Act.put, List.setIfInBounds_toArray, List.set_cons_zero, List.set_cons_succ]); go_simp
              refine and_dep (St.kpts (unhide HIN) (by intro q hq; obtain rfl := List.mem_singleton.1 hq; exact List.mem_cons_of_mem _ (List.mem_append_right _ List.mem_cons_self))) (fun hk44 => ?_)
              generalize World.setCell _ _ _ = v44 at HIN hk44 ⊢
              clear p0 p1 p2 p3 p4 p5 pf
              unfold treeGp; rw [show freeT [(7, 6), (8, 7), (9, 7), (11, 8), (11, 10)] [9] = [9] from by decide]; simp only [allL, List.getElem?_cons_zero, List.getElem?_cons_succ, List.erase_cons, beq_self_eq_true, if_true, Nat.reduceBEq, Bool.false_eq_true, if_false, and_true]
              refine ⟨fun _ => ?_, fun h => (Bool.false_ne_true (Eq.trans (Eq.symm h) (by rfl))).elim⟩
              unfold Oper.wpV; (try simp only [applyP, List.nil_append, List.cons_append, List.foldl_cons, List.foldl_nil, Act.put, List.setIfInBounds_toArray, List.set_cons_zero, List.set_cons_succ]); go_simp
              unfold treeGp; simp only [applyP, List.nil_append, List.cons_append, List.foldl_cons, List.foldl_nil, Act.put, List.setIfInBounds_toArray, List.set_cons_zero, List.set_cons_succ, List.drop_succ_cons, List.drop_zero]
              go_wp2_with fail
              go_meet
              exact ⟨_, rfl, rfl, _, _, HR', HNX, HIN⟩
          · refine ⟨fun _ => ?_, fun h => (Bool.false_ne_true (Eq.trans (Eq.symm h) (by rfl))).elim⟩
            unfold Oper.wpV; (try simp only [applyP, List.nil_append, List.cons_append, List.foldl_cons, List.foldl_nil, Act.put, List.setIfInBounds_toArray, List.set_cons_zero, List.set_cons_succ]); go_simp
            unfold treeGp; rw [show freeT [(7, 6), (8, 7), (9, 7), (11, 8), (11, 10)] [8, 11] = [8] from by decide]; simp only [allL, List.getElem?_cons_zero, List.getElem?_cons_succ, List.erase_cons, beq_self_eq_true, if_true, Nat.reduceBEq, Bool.false_eq_true, if_false, and_true]
            refine ⟨fun _ => ?_, fun h => (Bool.false_ne_true (Eq.trans (Eq.symm h) (by rfl))).elim⟩
            unfold Oper.wpV; (try simp only [applyP, List.nil_append, List.cons_append, List.foldl_cons, List.foldl_nil, Act.put, List.setIfInBounds_toArray, List.set_cons_zero, List.set_cons_succ]); go_simp
            unfold treeGp; rw [show freeT [(7, 6), (8, 7), (9, 7), (11, 8), (11, 10)] [11] = [11] from by decide]; simp only [allL, List.getElem?_cons_zero, List.getElem?_cons_succ, List.erase_cons, beq_self_eq_true, if_true, Nat.reduceBEq, Bool.false_eq_true, if_false, and_true]
            refine ⟨fun _ => ?_, fun h => (Bool.false_ne_true (Eq.trans (Eq.symm h) (by rfl))).elim⟩
            have hp := (unhide HQ).at
            have p0 : v39.cell? ⟨v0.heap.size, 0, none⟩ = some (.int .i64 0) := Lib.cell_of_heap hp 0
            have p1 : v39.cell? ⟨v0.heap.size, 1, none⟩ = some (.int .i64 0) := Lib.cell_of_heap hp 1
            have p2 : v39.cell? ⟨v0.heap.size, 2, none⟩ = some (.slice none 0 0) := Lib.cell_of_heap hp 2
            have p3 : v39.cell? ⟨v0.heap.size, 3, none⟩ = some (.slice none 0 0) := Lib.cell_of_heap hp 3
            have p4 : v39.cell? ⟨v0.heap.size, 4, none⟩ = some (.slice none 0 0) := Lib.cell_of_heap hp 4
            have p5 : v39.cell? ⟨v0.heap.size, 5, none⟩ = some (.slice none 0 0) := Lib.cell_of_heap hp 5
            have pf := frz hp
            have HIN := hide ((unhide HQ).store (.int .i64 (T : Int)) (.int .i64 sp) (.slice A len cap) (.slice (some ⟨ρ'.rb, 0, none⟩) T ρ'.rc) (.slice (some ⟨ρ'.sb, 0, none⟩) (G.go len S T (zv j 0) (opz zv j)).n ρ'.sc) (.slice (some ⟨ρ'.fb, 0, none⟩) (G.go len S T (zv j 0) (opz zv j)).n ρ'.fc))
            have HNX := hide (unhide HQ).ne2
            clear hp
            unfold Oper.wpV; (try simp only [applyP, List.nil_append, List.cons_append, List.foldl_cons, List.foldl_nil, Act.put, List.setIfInBounds_toArray, List.set_cons_zero, List.set_cons_succ]); go_simp
            refine and_dep (St.kpts (unhide HIN) (by intro q hq; obtain rfl := List.mem_singleton.1 hq; exact List.mem_cons_of_mem _ (List.mem_append_right _ List.mem_cons_self))) (fun hk48 => ?_)
            generalize World.setCell _ _ _ = v48 at HIN hk48 ⊢
            clear p0 p1 p2 p3 p4 p5 pf
            unfold treeGp; simp only [applyP, List.nil_append, List.cons_append, List.foldl_cons, List.foldl_nil, Act.put, List.setIfInBounds_toArray, List.set_cons_zero, List.set_cons_succ, List.drop_succ_cons, List.drop_zero]
            go_wp2_with fail
            go_meet
            exact ⟨_, rfl, rfl, _, _, HR', HNX, HIN⟩
      case rest =>
        obtain ⟨pb, rfl, rfl, ρ', lr', HR', HNX, HS⟩ := hcut
        clear u0 u1 u2 u3 u4 u5 u6 u7 u8 k0 k1 k2 k3 k4 k5 d0 d1 hk this
        have hpb := St.heap (unhide HS) (q := (pb, .cells #[.int .i64 (T : Int), .int .i64 sp, .slice A len cap, .slice (some ⟨ρ'.rb, 0, none⟩) T ρ'.rc, .slice (some ⟨ρ'.sb, 0, none⟩) (G.go len S T (zv j 0) (opz zv j)).n ρ'.sc, .slice (some ⟨ρ'.fb, 0, none⟩) (G.go len S T (zv j 0) (opz zv j)).n ρ'.fc] 49 (0, 0))) List.mem_cons_self
        have htb := St.heap (unhide HS) (q := (tb, .cells #[.int .i64 (T : Int), .int .i64 sp, .slice A len cap, .slice (some ⟨ρ.rb, 0, none⟩) T ρ.rc, .slice (some ⟨ρ.sb, 0, none⟩) G.n ρ.sc, .slice (some ⟨ρ.fb, 0, none⟩) G.n ρ.fc] 49 (0, 0))) (by simp)
        have tf : ∀ k, wc.frozen? ⟨tb, k, none⟩ = false := fun k => by simp [World.frozen?, htb]
        have m0 : wc.cell? ⟨pb, 0, none⟩ = some (.int .i64 (T : Int)) := Lib.cell_of_heap hpb 0
        have m1 : wc.cell? ⟨pb, 1, none⟩ = some (.int .i64 sp) := Lib.cell_of_heap hpb 1
        have m2 : wc.cell? ⟨pb, 2, none⟩ = some (.slice A len cap) := Lib.cell_of_heap hpb 2
        have m3 : wc.cell? ⟨pb, 3, none⟩ = some (.slice (some ⟨ρ'.rb, 0, none⟩) T ρ'.rc) := Lib.cell_of_heap hpb 3
        have m4 : wc.cell? ⟨pb, 4, none⟩ = some (.slice (some ⟨ρ'.sb, 0, none⟩) (G.go len S T (zv j 0) (opz zv j)).n ρ'.sc) := Lib.cell_of_heap hpb 4
        have m5 : wc.cell? ⟨pb, 5, none⟩ = some (.slice (some ⟨ρ'.fb, 0, none⟩) (G.go len S T (zv j 0) (opz zv j)).n ρ'.fc) := Lib.cell_of_heap hpb 5
        have k0 : wc.cell? ⟨tb, 0, none⟩ = some (.int .i64 (T : Int)) := Lib.cell_of_heap htb 0
        have k1 : wc.cell? ⟨tb, 1, none⟩ = some (.int .i64 sp) := Lib.cell_of_heap htb 1
        have k2 : wc.cell? ⟨tb, 2, none⟩ = some (.slice A len cap) := Lib.cell_of_heap htb 2
        have k3 : wc.cell? ⟨tb, 3, none⟩ = some (.slice (some ⟨ρ.rb, 0, none⟩) T ρ.rc) := Lib.cell_of_heap htb 3
        have k4 : wc.cell? ⟨tb, 4, none⟩ = some (.slice (some ⟨ρ.sb, 0, none⟩) G.n ρ.sc) := Lib.cell_of_heap htb 4
        have k5 : wc.cell? ⟨tb, 5, none⟩ = some (.slice (some ⟨ρ.fb, 0, none⟩) G.n ρ.fc) := Lib.cell_of_heap htb 5
        have HBK := hide (st1_back (unhide HS) (tb := tb) (lr' := lr') (List.mem_cons_of_mem _ (List.mem_append_right _ List.mem_cons_self)) hz5 (fun q hq => ⟨by simp [hq], unhide HNX q hq⟩) (.int .i64 (T : Int)) (.int .i64 sp) (.slice A len cap) (.slice (some ⟨ρ'.rb, 0, none⟩) T ρ'.rc) (.slice (some ⟨ρ'.sb, 0, none⟩) (G.go len S T (zv j 0) (opz zv j)).n ρ'.sc) (.slice (some ⟨ρ'.fb, 0, none⟩) (G.go len S T (zv j 0) (opz zv j)).n ρ'.fc))
        clear hpb htb
        go_wp2
        go_roundw
        case measure => simp [intOf]; omega
        case rel => exact ⟨j + 1, by omega, by go_num, hide ⟨ρ', lr', by rw [unhide HNX0]; exact unhide HR', unhide HNX, by rw [unhide HNX0]; exact unhide HBK⟩⟩
    · obtain rfl : n = j := by omega
      have d2 : ¬ (n : Int) < (n : Int) := by omega
      generalize runG len S T zv n = G at *
      have HR := hide hR
      have H0 := hide hJ
      have HOKG := hide (St.ok hJ (i := 0) Nat.one_pos)
      have HOKG : Hid (G.Ok len S T) := HOKG
      have HN1 := hide hG1
      have HN2 : Hid (G.n ≤ 99999) := hide (by omega)
      have HNE := hide hne
      clear hR hJ hG1 hne HJ
      have C1 : Hid (∀ W, Below wr.heap.size wr W → Calls Try.prog 20 #[.pointer (some ⟨g, 0, none⟩)] W fun e w' => ∃ v, e = .returned v ∧ Hid (RdVw w' v (G.view T S)) ∧ Below W.heap.size W w' ∧ Below wr.heap.size wr w') := hide (fun W hW => (st_view (St.below (unhide H0) hW) (i := 0) Nat.one_pos rfl (by have := unhide HN2; show G.n ≤ _; omega)).mono (fun e w' ⟨v, h1, h2, h3, _⟩ => ⟨v, h1, hide h2, h3, hW.trans (h3.mono hW.size)⟩))
      have hIR : ∀ W, Below wr.heap.size wr W → IsR T S W ρ G := fun W hW => St.isR (St.below (unhide H0) hW) (unhide HR) (fun q hq => List.mem_cons_of_mem _ hq)
      have hSO : ∀ W, Below wr.heap.size wr W → ShOk W A len S := fun W hW => (unhide HSW).keep ((St.b (unhide H0)).trans (hW.mono (St.b (unhide H0)).size))
      have C2 : Hid (∀ W, Below wr.heap.size wr W → Calls Try.prog 21 #[.agg #[.int .i64 (T : Int), .int .i64 sp, .slice A len cap, .slice (some ⟨ρ.rb, 0, none⟩) T ρ.rc, .slice (some ⟨ρ.sb, 0, none⟩) G.n ρ.sc, .slice (some ⟨ρ.fb, 0, none⟩) G.n ρ.fc]] W fun e w' => ∃ v, e = .returned v ∧ Hid (RdVw w' v (G.view T S)) ∧ Below W.heap.size W w' ∧ Below wr.heap.size wr w') := hide (fun W hW => (rView_any (sp := sp) (cap := cap) (hIR W hW) (hSO W hW) (unhide HOKG) hT8.1 hT8.2 (unhide HN1) (by have := unhide HN2; omega) (by omega)).mono (fun e w' ⟨v, h1, h2, h3⟩ => ⟨v, h1, hide h2, h3, hW.trans (h3.mono hW.size)⟩))
      have hvb : VwB (G.view T S) := by
        obtain ⟨L, -, hL⟩ := St.isG (unhide H0) (i := 0) Nat.one_pos
        exact (view_small hL (by have := unhide HN2; show G.n ≤ _; omega)).big
      have C3 : Hid (∀ W v1 v2, RdVw W v1 (G.view T S) → RdVw W v2 (G.view T S) → Below wr.heap.size wr W → Calls Try.prog 19 #[v1, v2] W fun e w' => e = .returned (.bool true) ∧ Below wr.heap.size wr w') := hide (fun W v1 v2 h1 h2 hW => (rAlike_any _ _ v1 v2 hvb hvb W h1 h2 true (by simp)).mono (fun e w' ⟨h1, h3⟩ => ⟨h1, hW.trans (h3.mono hW.size)⟩))
      have C4 : Hid (∀ W, Below wr.heap.size wr W → Calls Try.prog 22 #[.pointer (some ⟨g, 0, none⟩)] W fun e w' => e = .returned (.int .i64 (wordsOf S G (G.reach T S) : Nat)) ∧ Below wr.heap.size wr w') := hide (fun W hW => (st_words (St.below (unhide H0) hW) (i := 0) Nat.one_pos rfl (by have := unhide HN2; show G.n ≤ _; omega)).mono (fun e w' ⟨h1, h3, _⟩ => ⟨h1, hW.trans (h3.mono hW.size)⟩))
      have C5 : Hid (∀ W, Below wr.heap.size wr W → Calls Try.prog 23 #[.agg #[.int .i64 (T : Int), .int .i64 sp, .slice A len cap, .slice (some ⟨ρ.rb, 0, none⟩) T ρ.rc, .slice (some ⟨ρ.sb, 0, none⟩) G.n ρ.sc, .slice (some ⟨ρ.fb, 0, none⟩) G.n ρ.fc]] W fun e w' => e = .returned (.int .i64 (wordsOf S G (G.reach T S) : Nat)) ∧ Below wr.heap.size wr w') := hide (fun W hW => (rWords_any (sp := sp) (cap := cap) (hIR W hW) (hSO W hW) (unhide HOKG) hT8.1 hT8.2 (unhide HN1) (by have := unhide HN2; omega) (by omega)).mono (fun e w' ⟨h1, h3⟩ => ⟨h1, hW.trans (h3.mono hW.size)⟩))
      have C6 : Hid (∀ W, Below wr.heap.size wr W → Calls Try.prog 24 #[.pointer (some ⟨g, 0, none⟩)] W fun e w' => e = .returned (.int .i64 (G.n : Nat)) ∧ W = w') := hide (fun W hW => st_made (St.below (unhide H0) hW) (i := 0) Nat.one_pos rfl)
      have C7 : Hid (∀ W, Below wr.heap.size wr W → Calls Try.prog 13 #[] W fun e w' => e = .returned (.bool true) ∧ Below wr.heap.size wr w') := hide (fun W hW => (works09_any W).mono (fun e w' ⟨h1, h3⟩ => ⟨h1, hW.trans (h3.mono hW.size)⟩))
      clear hIR hSO hvb
      have htb := St.heap (unhide H0) (q := (tb, .cells #[.int .i64 (T : Int), .int .i64 sp, .slice A len cap, .slice (some ⟨ρ.rb, 0, none⟩) T ρ.rc, .slice (some ⟨ρ.sb, 0, none⟩) G.n ρ.sc, .slice (some ⟨ρ.fb, 0, none⟩) G.n ρ.fc] 49 (0, 0))) List.mem_cons_self
      have hzt := (Array.getElem?_eq_some_iff.1 htb).1
      have k0 : wr.cell? ⟨tb, 0, none⟩ = some (.int .i64 (T : Int)) := Lib.cell_of_heap htb 0
      have k1 : wr.cell? ⟨tb, 1, none⟩ = some (.int .i64 sp) := Lib.cell_of_heap htb 1
      have k2 : wr.cell? ⟨tb, 2, none⟩ = some (.slice A len cap) := Lib.cell_of_heap htb 2
      have k3 : wr.cell? ⟨tb, 3, none⟩ = some (.slice (some ⟨ρ.rb, 0, none⟩) T ρ.rc) := Lib.cell_of_heap htb 3
      have k4 : wr.cell? ⟨tb, 4, none⟩ = some (.slice (some ⟨ρ.sb, 0, none⟩) G.n ρ.sc) := Lib.cell_of_heap htb 4
      have k5 : wr.cell? ⟨tb, 5, none⟩ = some (.slice (some ⟨ρ.fb, 0, none⟩) G.n ρ.fc) := Lib.cell_of_heap htb 5
      have HBR := hide (hBw2.trans ((St.b (unhide H0)).mono hBw2.size))
      clear htb
      generalize wordsOf S G (G.reach T S) = wd at *
      go_upto_region 16 with fail
      clear d2
      go_region_held3 (fun W => Below wr.heap.size wr W ∧ W.cell? ⟨tb, 0, none⟩ = some (.int .i64 (T : Int)) ∧ W.cell? ⟨tb, 1, none⟩ = some (.int .i64 sp) ∧ W.cell? ⟨tb, 2, none⟩ = some (.slice A len cap) ∧ W.cell? ⟨tb, 3, none⟩ = some (.slice (some ⟨ρ.rb, 0, none⟩) T ρ.rc) ∧ W.cell? ⟨tb, 4, none⟩ = some (.slice (some ⟨ρ.sb, 0, none⟩) G.n ρ.sc) ∧ W.cell? ⟨tb, 5, none⟩ = some (.slice (some ⟨ρ.fb, 0, none⟩) G.n ρ.fc)) (((refine and_dep ?_ (fun hkq => ⟨(hkq.cell (p := ⟨tb, 0, none⟩) hzt).trans k0, (hkq.cell (p := ⟨tb, 1, none⟩) hzt).trans k1, (hkq.cell (p := ⟨tb, 2, none⟩) hzt).trans k2, (hkq.cell (p := ⟨tb, 3, none⟩) hzt).trans k3, (hkq.cell (p := ⟨tb, 4, none⟩) hzt).trans k4, (hkq.cell (p := ⟨tb, 5, none⟩) hzt).trans k5⟩)); go_split_ands; repeat (first | exact Below.refl _ _ | assumption | refine Below.alloc ?_ (by first | (simp; done) | (simp; omega) | omega) _ | refine Below.setCell ?_ (by first | (simp; done) | (simp; omega) | omega) _ | apply Below.drew | refine Below.trans ?_ (Below.mono (by assumption) (by first | (simp; done) | (simp; omega) | omega))))) ((first
        | (go_at_call 20; refine (unhide C1 _ (by repeat (first | exact Below.refl _ _ | assumption | refine Below.alloc ?_ (by first | (simp; done) | (simp; omega) | omega) _ | refine Below.setCell ?_ (by first | (simp; done) | (simp; omega) | omega) _ | apply Below.drew | refine Below.trans ?_ (Below.mono (by assumption) (by first | (simp; done) | (simp; omega) | omega))))).mono ?_; rintro e x5 ⟨v5, rfl, hv5, hb5, hq5⟩; clear hb5)
        | (go_at_call 21; refine (unhide C2 _ (by repeat (first | exact Below.refl _ _ | assumption | refine Below.alloc ?_ (by first | (simp; done) | (simp; omega) | omega) _ | refine Below.setCell ?_ (by first | (simp; done) | (simp; omega) | omega) _ | apply Below.drew | refine Below.trans ?_ (Below.mono (by assumption) (by first | (simp; done) | (simp; omega) | omega))))).mono ?_; rintro e x6 ⟨v6, rfl, hv6, hb6, hq6⟩)
        | (go_at_call 19; refine (unhide C3 _ _ _ ((unhide hv5).below hb6) (unhide hv6) hq6).mono ?_; rintro e x7 ⟨rfl, hq7⟩)
        | (go_at_call 22; refine (unhide C4 _ (by repeat (first | exact Below.refl _ _ | assumption | refine Below.alloc ?_ (by first | (simp; done) | (simp; omega) | omega) _ | refine Below.setCell ?_ (by first | (simp; done) | (simp; omega) | omega) _ | apply Below.drew | refine Below.trans ?_ (Below.mono (by assumption) (by first | (simp; done) | (simp; omega) | omega))))).mono ?_; rintro e x8 ⟨rfl, hq8⟩)
        | (go_at_call 23; refine (unhide C5 _ (by repeat (first | exact Below.refl _ _ | assumption | refine Below.alloc ?_ (by first | (simp; done) | (simp; omega) | omega) _ | refine Below.setCell ?_ (by first | (simp; done) | (simp; omega) | omega) _ | apply Below.drew | refine Below.trans ?_ (Below.mono (by assumption) (by first | (simp; done) | (simp; omega) | omega))))).mono ?_; rintro e x9 ⟨rfl, hq9⟩)
        | (go_at_call 24; refine (unhide C6 _ (by repeat (first | exact Below.refl _ _ | assumption | refine Below.alloc ?_ (by first | (simp; done) | (simp; omega) | omega) _ | refine Below.setCell ?_ (by first | (simp; done) | (simp; omega) | omega) _ | apply Below.drew | refine Below.trans ?_ (Below.mono (by assumption) (by first | (simp; done) | (simp; omega) | omega))))).mono ?_; rintro e x9b ⟨rfl, rfl⟩)
        | (go_at_call 13; refine (unhide C7 _ (by repeat (first | exact Below.refl _ _ | assumption | refine Below.alloc ?_ (by first | (simp; done) | (simp; omega) | omega) _ | refine Below.setCell ?_ (by first | (simp; done) | (simp; omega) | omega) _ | apply Below.drew | refine Below.trans ?_ (Below.mono (by assumption) (by first | (simp; done) | (simp; omega) | omega))))).mono ?_; rintro e x10 ⟨rfl, hq10⟩)))
      all_goals go_wp2_with fail
      all_goals go_ret
      all_goals exact ⟨rfl, (unhide HBR).trans (hq10.mono (unhide HBR).size)⟩

theorem graphPlay_walk (t : Int) (_ : (Lit.int .i64 t).wf = true) (sp : Int) (_ : (Lit.int .i64 sp).wf = true) (A : Option Addr) (len cap : Nat) (B : Option Addr) (n bc : Nat)  (w : World) (hr : RowOk w 5 [.str] A len cap) (hr2 : RowOk w 5 [.int .i64, .int .i64, .int .i64, .int .i64, .int .i64, .int .i64, .int .i64, .int .i64, .int .i64] B n bc) :
    Calls Try.prog 4 #[.agg #[.int .i64 t, .int .i64 sp, .slice A len cap], .slice B n bc] w fun e w' => e = .returned (.bool true) ∧ Below w.heap.size w w' := by
  have hm := hr.1
  have hm2 := hr.2.1
  have hn := hr2.1
  have hn2 := hr2.2.1
  unfold maxLen at hm2 hn2
  obtain ⟨S, H, hS⟩ := ShOk.of_row hr
  obtain ⟨zv, HA⟩ := ActOk.of_row hr2
  cases e2 : fewB len S n 80 with
  | false => exact play_many t sp A len cap B n bc (by omega) (by omega) S w H hS e2
  | true =>
    cases e1 : okPB t sp len S with
    | false => exact play_bad t sp A len cap B n bc (by omega) (by omega) S w H hS e2 e1
    | true =>
      have h8 := (okPB_iff.1 e1).1
      obtain ⟨T, rfl⟩ : ∃ T : Nat, t = (T : Int) := ⟨t.toNat, by omega⟩
      exact play_ok T sp A len cap B n bc (by omega) (by omega) S zv w H hS (hide HA) e2 e1
end Go.Proofs.Ytbkaopeajjechaa
