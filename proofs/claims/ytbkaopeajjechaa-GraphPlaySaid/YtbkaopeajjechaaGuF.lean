/- The walks of slices.Equal at numbers and texts. The walks of graph.Alike. The walks of graph.Alike and graph.Same. A move in a drawn region may be held back till another operation is done: then the region's first operations stand in one forced order. No program in sight. The walks of graph.Same. -/
import Derived.Test.YtbkaopeajjechaaGuE
import Derived.Test.YtbkaopeajjechaaGrU
import Derived.Test.YtbkaopeajjechaaGtC
import Derived.Test.YtbkaopeajjechaaRh
namespace Go.Proofs.Ytbkaopeajjechaa
set_option linter.unusedVariables false
set_option linter.unusedSimpArgs false
open Go.RowKit Go.Maps

/-- A row in memory, its cells by a function of what they hold. -/
def RdC {α : Type} (t : TypeId) (f : α → Value) (W : World) (v : Value) (l : List α) : Prop :=
  ∃ A c, v = .slice A l.length c ∧ ∀ (j : Nat) (x : α), l[j]? = some x → ∃ g o, A = some ⟨g, o, none⟩ ∧ g < W.heap.size ∧ W.cell? ⟨g, o + j, none⟩ = some (f x)

theorem RdC.below {α : Type} {t : TypeId} {f : α → Value} {W V : World} {v : Value} {l : List α} (h : RdC t f W v l) (hb : Below W.heap.size W V) : RdC t f V v l := by
  obtain ⟨A, c, e, h⟩ := h
  refine ⟨A, c, e, fun j x hj => ?_⟩
  obtain ⟨g, o, e1, e2, e3⟩ := h j x hj
  exact ⟨g, o, e1, Nat.lt_of_lt_of_le e2 hb.size, (hb.cell (p := ⟨g, o + j, none⟩) e2).trans e3⟩

theorem RdI.rdC {t : TypeId} {W : World} {v : Value} {l : List Int} (h : RdI t W v l) : RdC t (Value.int .i64) W v l := by
  obtain ⟨A, c, e, h⟩ := h
  refine ⟨A, c, e, fun j x hj => ?_⟩
  obtain ⟨g, cur, e1, e2, e3⟩ := h j x hj
  exact ⟨g, 0, e1, (Array.getElem?_eq_some_iff.1 e2).1, by rw [Nat.zero_add]; exact e3⟩

theorem ext_of {α : Type} {l1 l2 : List α} (hl : l1.length = l2.length) (h : ∀ j, j < l1.length → l1[j]? = l2[j]?) : l1 = l2 := by
  apply List.ext_getElem?
  intro j
  rcases Nat.lt_or_ge j l1.length with h1 | h1
  · exact h j h1
  · rw [List.getElem?_eq_none h1, List.getElem?_eq_none (by omega)]

set_option maxRecDepth 100000 in
set_option maxHeartbeats 4000000 in
theorem equalI (l1 l2 : List Int) (v1 v2 : Value) (hn1 : l1.length ≤ 1000000) (hn2 : l2.length ≤ 1000000) (w : World) (H1 : RdC 3 (Value.int .i64) w v1 l1) (H2 : RdC 3 (Value.int .i64) w v2 l2) (D : Bool) (hD : D = true ↔ l1 = l2) :
    Calls Try.prog 45 #[v1, v2] w fun e w' => e = .returned (.bool D) ∧ Below w.heap.size w w' := by
  obtain ⟨A1, c1, rfl, h1⟩ := H1
  obtain ⟨A2, c2, rfl, h2⟩ := H2
  have HD := hide hD
  have HC1 := hide h1
  have HC2 := hide h2
  clear hD h1 h2
  by_cases hl : l1.length = l2.length
  · rw [← hl]
    have HL := hide hl
    clear hl hn2
    generalize hm : l1.length = m at *
    have HM := hide hm
    clear hm
    go_enter Try.func45, Try.ntmps45
    go_wp2
    go_loopw [13] (fun i wr => ∃ k : Nat, k ≤ m ∧ i = .int .i64 k ∧ Hid (∀ j, j < k → l1[j]? = l2[j]?) ∧ Below w.heap.size w wr) (fun i _ => m - (intOf i).toNat)
    case atStart => exact ⟨0, Nat.zero_le _, rfl, hide (fun j hj => by omega), Below.refl _ _⟩
    case round =>
      obtain ⟨k, hk, rfl, HK, hB⟩ := hrel
      by_cases hlt : k < m
      · obtain ⟨x, hx⟩ : ∃ x, l1[k]? = some x := ⟨_, List.getElem?_eq_getElem (by rw [unhide HM]; exact hlt)⟩
        obtain ⟨y, hy⟩ : ∃ y, l2[k]? = some y := ⟨_, List.getElem?_eq_getElem (by rw [← unhide HL]; exact hlt)⟩
        obtain ⟨g1, o1, rfl, l1', q1⟩ := unhide HC1 k x hx
        obtain ⟨g2, o2, rfl, l2', q2⟩ := unhide HC2 k y hy
        have hz := hB.size
        have u1 := Later.cell (w := wr) (show g1 < wr.heap.size by omega) ((hB.cell (p := ⟨g1, o1 + k, none⟩) l1').trans q1)
        have u2 := Later.cell (w := wr) (show g2 < wr.heap.size by omega) ((hB.cell (p := ⟨g2, o2 + k, none⟩) l2').trans q2)
        have b0 : (0 : Int) ≤ (k : Int) := by omega
        have b1 : (k : Int) < (m : Int) := by omega
        have HX := hide hx
        have HY := hide hy
        clear q1 q2 hx hy
        by_cases e : x = y
        · have eb : (x == y) = true := by simpa using e
          have HE := hide e
          clear e
          go_wp2_with fail
          refine wp_region_later wr (by kernel_rfl) (by kernel_rfl) (by repeat (first | exact Below.refl _ _ | assumption | refine Below.alloc ?_ (by first | (simp; done) | (simp; omega) | omega) _ | refine Below.setCell ?_ (by first | (simp; done) | (simp; omega) | omega) _ | apply Below.drew | refine Below.trans ?_ (Below.mono (by assumption) (by first | (simp; done) | (simp; omega) | omega)))) ?_; (repeat (first | go_big_quiet_skip | (go_big_quiet_want; (first | ((fail); go_big_quiet_on; simp only [Act.put, List.setIfInBounds_toArray, List.set_cons_zero, List.set_cons_succ]) | (go_big_quiet_op; (first | go_big_quiet_on | go_big_quiet_call ((fail)))))))); refine wpQuiet_nil ?_
          intro U hU
          have HU := hide hU
          clear u1 u2 hU
          go_wp2
          go_roundw
          case measure => simp [intOf]; omega
          case rel => exact ⟨k + 1, by omega, by go_num, hide (fun j hj => by
            by_cases ej : j = k
            · subst ej
              rw [unhide HX, unhide HY, unhide HE]
            · exact unhide HK j (by omega)), hB.trans ((unhide HU).mono hz)⟩
        · have eb : (x == y) = false := by simpa using e
          have hf : D = false := by
            rw [Bool.eq_false_iff]
            intro h
            have := (unhide HD).1 h
            rw [← this, unhide HX] at HY
            have h2 := unhide HY
            injection h2 with h2
            exact e h2
          subst hf
          clear e
          go_wp2_with fail
          refine wp_region_later wr (by kernel_rfl) (by kernel_rfl) (by repeat (first | exact Below.refl _ _ | assumption | refine Below.alloc ?_ (by first | (simp; done) | (simp; omega) | omega) _ | refine Below.setCell ?_ (by first | (simp; done) | (simp; omega) | omega) _ | apply Below.drew | refine Below.trans ?_ (Below.mono (by assumption) (by first | (simp; done) | (simp; omega) | omega)))) ?_; (repeat (first | go_big_quiet_skip | (go_big_quiet_want; (first | ((fail); go_big_quiet_on; simp only [Act.put, List.setIfInBounds_toArray, List.set_cons_zero, List.set_cons_succ]) | (go_big_quiet_op; (first | go_big_quiet_on | go_big_quiet_call ((fail)))))))); refine wpQuiet_nil ?_
          intro U hU
          have HU := hide hU
          clear u1 u2 hU
          go_wp2
          go_ret
          exact ⟨rfl, hB.trans ((unhide HU).mono hz)⟩
      · obtain rfl : k = m := by omega
        have ht : D = true := (unhide HD).2 (ext_of (by rw [unhide HM, unhide HL]) (fun j hj => unhide HK j (by rw [unhide HM] at hj; exact hj)))
        subst ht
        go_wp2
        go_ret
        exact ⟨rfl, hB⟩
  · have hf : D = false := by
      rw [Bool.eq_false_iff]
      intro h
      exact hl (congrArg List.length ((unhide HD).1 h))
    subst hf
    generalize hm1 : l1.length = m1 at *
    generalize hm2 : l2.length = m2 at *
    have hlb : ((m1 : Int) == (m2 : Int)) = false := by simp; omega
    clear hl hm1 hm2 HC1 HC2 HD
    go_enter Try.func45, Try.ntmps45
    go_wp2
    go_ret
    exact ⟨rfl, Below.refl _ _⟩

set_option maxRecDepth 100000 in
set_option maxHeartbeats 4000000 in
theorem equalJ (l1 l2 : List Int) (v1 v2 : Value) (hn1 : l1.length ≤ 1000000) (hn2 : l2.length ≤ 1000000) (w : World) (H1 : RdC 2 (Value.int .i64) w v1 l1) (H2 : RdC 2 (Value.int .i64) w v2 l2) (D : Bool) (hD : D = true ↔ l1 = l2) :
    Calls Try.prog 48 #[v1, v2] w fun e w' => e = .returned (.bool D) ∧ Below w.heap.size w w' := by
  obtain ⟨A1, c1, rfl, h1⟩ := H1
  obtain ⟨A2, c2, rfl, h2⟩ := H2
  have HD := hide hD
  have HC1 := hide h1
  have HC2 := hide h2
  clear hD h1 h2
  by_cases hl : l1.length = l2.length
  · rw [← hl]
    have HL := hide hl
    clear hl hn2
    generalize hm : l1.length = m at *
    have HM := hide hm
    clear hm
    go_enter Try.func48, Try.ntmps48
    go_wp2
    go_loopw [13] (fun i wr => ∃ k : Nat, k ≤ m ∧ i = .int .i64 k ∧ Hid (∀ j, j < k → l1[j]? = l2[j]?) ∧ Below w.heap.size w wr) (fun i _ => m - (intOf i).toNat)
    case atStart => exact ⟨0, Nat.zero_le _, rfl, hide (fun j hj => by omega), Below.refl _ _⟩
    case round =>
      obtain ⟨k, hk, rfl, HK, hB⟩ := hrel
      by_cases hlt : k < m
      · obtain ⟨x, hx⟩ : ∃ x, l1[k]? = some x := ⟨_, List.getElem?_eq_getElem (by rw [unhide HM]; exact hlt)⟩
        obtain ⟨y, hy⟩ : ∃ y, l2[k]? = some y := ⟨_, List.getElem?_eq_getElem (by rw [← unhide HL]; exact hlt)⟩
        obtain ⟨g1, o1, rfl, l1', q1⟩ := unhide HC1 k x hx
        obtain ⟨g2, o2, rfl, l2', q2⟩ := unhide HC2 k y hy
        have hz := hB.size
        have u1 := Later.cell (w := wr) (show g1 < wr.heap.size by omega) ((hB.cell (p := ⟨g1, o1 + k, none⟩) l1').trans q1)
        have u2 := Later.cell (w := wr) (show g2 < wr.heap.size by omega) ((hB.cell (p := ⟨g2, o2 + k, none⟩) l2').trans q2)
        have b0 : (0 : Int) ≤ (k : Int) := by omega
        have b1 : (k : Int) < (m : Int) := by omega
        have HX := hide hx
        have HY := hide hy
        clear q1 q2 hx hy
        by_cases e : x = y
        · have eb : (x == y) = true := by simpa using e
          have HE := hide e
          clear e
          go_wp2_with fail
          refine wp_region_later wr (by kernel_rfl) (by kernel_rfl) (by repeat (first | exact Below.refl _ _ | assumption | refine Below.alloc ?_ (by first | (simp; done) | (simp; omega) | omega) _ | refine Below.setCell ?_ (by first | (simp; done) | (simp; omega) | omega) _ | apply Below.drew | refine Below.trans ?_ (Below.mono (by assumption) (by first | (simp; done) | (simp; omega) | omega)))) ?_; (repeat (first | go_big_quiet_skip | (go_big_quiet_want; (first | ((fail); go_big_quiet_on; simp only [Act.put, List.setIfInBounds_toArray, List.set_cons_zero, List.set_cons_succ]) | (go_big_quiet_op; (first | go_big_quiet_on | go_big_quiet_call ((fail)))))))); refine wpQuiet_nil ?_
          intro U hU
          have HU := hide hU
          clear u1 u2 hU
          go_wp2
          go_roundw
          case measure => simp [intOf]; omega
          case rel => exact ⟨k + 1, by omega, by go_num, hide (fun j hj => by
            by_cases ej : j = k
            · subst ej
              rw [unhide HX, unhide HY, unhide HE]
            · exact unhide HK j (by omega)), hB.trans ((unhide HU).mono hz)⟩
        · have eb : (x == y) = false := by simpa using e
          have hf : D = false := by
            rw [Bool.eq_false_iff]
            intro h
            have := (unhide HD).1 h
            rw [← this, unhide HX] at HY
            have h2 := unhide HY
            injection h2 with h2
            exact e h2
          subst hf
          clear e
          go_wp2_with fail
          refine wp_region_later wr (by kernel_rfl) (by kernel_rfl) (by repeat (first | exact Below.refl _ _ | assumption | refine Below.alloc ?_ (by first | (simp; done) | (simp; omega) | omega) _ | refine Below.setCell ?_ (by first | (simp; done) | (simp; omega) | omega) _ | apply Below.drew | refine Below.trans ?_ (Below.mono (by assumption) (by first | (simp; done) | (simp; omega) | omega)))) ?_; (repeat (first | go_big_quiet_skip | (go_big_quiet_want; (first | ((fail); go_big_quiet_on; simp only [Act.put, List.setIfInBounds_toArray, List.set_cons_zero, List.set_cons_succ]) | (go_big_quiet_op; (first | go_big_quiet_on | go_big_quiet_call ((fail)))))))); refine wpQuiet_nil ?_
          intro U hU
          have HU := hide hU
          clear u1 u2 hU
          go_wp2
          go_ret
          exact ⟨rfl, hB.trans ((unhide HU).mono hz)⟩
      · obtain rfl : k = m := by omega
        have ht : D = true := (unhide HD).2 (ext_of (by rw [unhide HM, unhide HL]) (fun j hj => unhide HK j (by rw [unhide HM] at hj; exact hj)))
        subst ht
        go_wp2
        go_ret
        exact ⟨rfl, hB⟩
  · have hf : D = false := by
      rw [Bool.eq_false_iff]
      intro h
      exact hl (congrArg List.length ((unhide HD).1 h))
    subst hf
    generalize hm1 : l1.length = m1 at *
    generalize hm2 : l2.length = m2 at *
    have hlb : ((m1 : Int) == (m2 : Int)) = false := by simp; omega
    clear hl hm1 hm2 HC1 HC2 HD
    go_enter Try.func48, Try.ntmps48
    go_wp2
    go_ret
    exact ⟨rfl, Below.refl _ _⟩

set_option maxRecDepth 100000 in
set_option maxHeartbeats 4000000 in
theorem equalS (m : Nat) (S : Nat → ByteArray) (A : Option Addr) (c1 c2 : Nat) (hn : m ≤ 1000000) (w : World) (H : ShOk w A m S) :
    Calls Try.prog 49 #[.slice A m c1, .slice A m c2] w fun e w' => e = .returned (.bool true) ∧ Below w.heap.size w w' := by
  have HH := hide H
  clear H
  go_enter Try.func49, Try.ntmps49
  go_wp2
  go_loopw [13] (fun i wr => ∃ k : Nat, k ≤ m ∧ i = .int .i64 k ∧ Below w.heap.size w wr) (fun i _ => m - (intOf i).toNat)
  case atStart => exact ⟨0, Nat.zero_le _, rfl, Below.refl _ _⟩
  case round =>
    obtain ⟨k, hk, rfl, hB⟩ := hrel
    by_cases hlt : k < m
    · obtain ⟨g1, o1, rfl, l1', q1⟩ := unhide HH (by omega)
      have hz := hB.size
      have u1 := Later.cell (w := wr) (show g1 < wr.heap.size by omega) ((hB.cell (p := ⟨g1, o1 + k, none⟩) l1').trans (q1 k hlt))
      have b0 : (0 : Int) ≤ (k : Int) := by omega
      have b1 : (k : Int) < (m : Int) := by omega
      clear q1
      go_wp2_with fail
      refine wp_region_later wr (by kernel_rfl) (by kernel_rfl) (by repeat (first | exact Below.refl _ _ | assumption | refine Below.alloc ?_ (by first | (simp; done) | (simp; omega) | omega) _ | refine Below.setCell ?_ (by first | (simp; done) | (simp; omega) | omega) _ | apply Below.drew | refine Below.trans ?_ (Below.mono (by assumption) (by first | (simp; done) | (simp; omega) | omega)))) ?_; (repeat (first | go_big_quiet_skip | (go_big_quiet_want; (first | ((fail); go_big_quiet_on; simp only [Act.put, List.setIfInBounds_toArray, List.set_cons_zero, List.set_cons_succ]) | (go_big_quiet_op; (first | go_big_quiet_on | go_big_quiet_call ((fail)))))))); refine wpQuiet_nil ?_
      intro U hU
      have HU := hide hU
      clear u1 hU
      go_wp2
      go_roundw
      case measure => simp [intOf]; omega
      case rel => exact ⟨k + 1, by omega, by go_num, hB.trans ((unhide HU).mono hz)⟩
    · obtain rfl : k = m := by omega
      go_wp2
      go_ret
      exact ⟨rfl, hB⟩
end Go.Proofs.Ytbkaopeajjechaa

namespace Go.Proofs.Ytbkaopeajjechaa
open Go.RowKit Go.Maps

set_option maxRecDepth 100000 in
set_option maxHeartbeats 4000000 in
theorem equalLL (L1 L2 : List (List Int)) (v1 v2 : Value) (hn1 : L1.length ≤ 1000000) (_ : L2.length ≤ 1000000) (hs1 : ∀ l ∈ L1, l.length ≤ 1000000) (hs2 : ∀ l ∈ L2, l.length ≤ 1000000) (w : World) (H1 : RdLL w v1 L1) (H2 : RdLL w v2 L2) (D : Bool) (hD : D = true ↔ L1 = L2) :
    Calls Try.prog 44 #[v1, v2, .func (.func 45) #[] #[]] w fun e w' => e = .returned (.bool D) ∧ Below w.heap.size w w' := by
  obtain ⟨A1, c1, rfl, h1⟩ := H1
  obtain ⟨A2, c2, rfl, h2⟩ := H2
  have HD := hide hD
  have HC1 := hide h1
  have HC2 := hide h2
  have HS1 := hide hs1
  have HS2 := hide hs2
  clear hD h1 h2 hs1 hs2
  by_cases hl : L1.length = L2.length
  · rw [← hl]
    have HL := hide hl
    clear hl
    generalize hm : L1.length = m at *
    have HM := hide hm
    clear hm
    go_enter Try.func44, Try.ntmps44
    go_wp2
    go_loopw [17] (fun i wr => ∃ k : Nat, k ≤ m ∧ i = .int .i64 k ∧ Hid (∀ j, j < k → L1[j]? = L2[j]?) ∧ Below w.heap.size w wr) (fun i _ => m - (intOf i).toNat)
    case atStart => exact ⟨0, Nat.zero_le _, rfl, hide (fun j hj => by omega), Below.refl _ _⟩
    case round =>
      obtain ⟨k, hk, rfl, HK, hB⟩ := hrel
      by_cases hlt : k < m
      · obtain ⟨x, hx⟩ : ∃ x, L1[k]? = some x := ⟨_, List.getElem?_eq_getElem (by rw [unhide HM]; exact hlt)⟩
        obtain ⟨y, hy⟩ : ∃ y, L2[k]? = some y := ⟨_, List.getElem?_eq_getElem (by rw [← unhide HL]; exact hlt)⟩
        obtain ⟨g1, u, rfl, l1', q1, r1⟩ := unhide HC1 k x hx
        obtain ⟨g2, v, rfl, l2', q2, r2⟩ := unhide HC2 k y hy
        have hz := hB.size
        have t1 := (hB.cell (p := ⟨g1, k, none⟩) l1').trans q1
        have t2 := (hB.cell (p := ⟨g2, k, none⟩) l2').trans q2
        have b0 : (0 : Int) ≤ (k : Int) := by omega
        have b1 : (k : Int) < (m : Int) := by omega
        have HX := hide hx
        have HY := hide hy
        have hc := hide (equalI x y u v (unhide HS1 x (List.mem_of_getElem? hx)) (unhide HS2 y (List.mem_of_getElem? hy)) wr (RdC.below r1.rdC hB) (RdC.below r2.rdC hB))
        clear q1 q2 hx hy r1 r2
        by_cases e : x = y
        · have HE := hide e
          have hc1 := unhide hc true (by simp [e])
          clear e hc
          go_wp2_with fail
          refine hc1.mono ?_
          rintro e w2 ⟨rfl, hU⟩
          have HU := hide hU
          clear hU hc1 t1 t2
          go_wp2
          go_roundw
          case measure => simp [intOf]; omega
          case rel => exact ⟨k + 1, by omega, by go_num, hide (fun j hj => by
            by_cases ej : j = k
            · subst ej
              rw [unhide HX, unhide HY, unhide HE]
            · exact unhide HK j (by omega)), hB.trans ((unhide HU).mono hz)⟩
        · have hf : D = false := by
            rw [Bool.eq_false_iff]
            intro h
            have := (unhide HD).1 h
            rw [← this, unhide HX] at HY
            have h2 := unhide HY
            injection h2 with h2
            exact e h2
          subst hf
          have hc1 := unhide hc false (by simp [e])
          clear e hc
          go_wp2_with fail
          refine hc1.mono ?_
          rintro e w2 ⟨rfl, hU⟩
          have HU := hide hU
          clear hU hc1 t1 t2
          go_wp2
          go_ret
          exact ⟨rfl, hB.trans ((unhide HU).mono hz)⟩
      · obtain rfl : k = m := by omega
        have ht : D = true := (unhide HD).2 (ext_of (by rw [unhide HM, unhide HL]) (fun j hj => unhide HK j (by rw [unhide HM] at hj; exact hj)))
        subst ht
        go_wp2
        go_ret
        exact ⟨rfl, hB⟩
  · have hf : D = false := by
      rw [Bool.eq_false_iff]
      intro h
      exact hl (congrArg List.length ((unhide HD).1 h))
    subst hf
    generalize hm1 : L1.length = m1 at *
    generalize hm2 : L2.length = m2 at *
    have hlb : ((m1 : Int) == (m2 : Int)) = false := by simp; omega
    clear hl hm1 hm2 HC1 HC2 HD
    go_enter Try.func44, Try.ntmps44
    go_wp2
    go_ret
    exact ⟨rfl, Below.refl _ _⟩

set_option maxRecDepth 100000 in
set_option maxHeartbeats 4000000 in
theorem nodeEq (p q : Int × List Int) (u v : Value) (hs1 : p.2.length ≤ 1000000) (hs2 : q.2.length ≤ 1000000) (w : World) (H1 : RdI 2 w u p.2) (H2 : RdI 2 w v q.2) (D : Bool) (hD : D = true ↔ p = q) :
    Calls Try.prog 47 #[.agg #[.int .i64 p.1, u], .agg #[.int .i64 q.1, v]] w fun e w' => e = .returned (.bool D) ∧ Below w.heap.size w w' := by
  obtain ⟨p1, p2⟩ := p
  obtain ⟨q1, q2⟩ := q
  have hc := hide (fun W (hW : Below w.heap.size w W) => equalJ p2 q2 u v hs1 hs2 W (RdC.below H1.rdC hW) (RdC.below H2.rdC hW))
  obtain ⟨A1, c1, rfl, -⟩ := H1
  obtain ⟨A2, c2, rfl, -⟩ := H2
  dsimp only at hc ⊢
  generalize p2.length = n1 at *
  generalize q2.length = n2 at *
  by_cases e1 : p1 = q1
  · have eb : (p1 == q1) = true := by simpa using e1
    have hc1 := hide (fun W hW => unhide hc W hW D (by rw [hD, e1]; simp))
    clear hc hD e1
    go_enter Try.func47, Try.ntmps47
    go_wp2_with fail
    refine (unhide hc1 _ (by repeat (first | exact Below.refl _ _ | assumption | refine Below.alloc ?_ (by first | (simp; done) | (simp; omega) | omega) _ | refine Below.setCell ?_ (by first | (simp; done) | (simp; omega) | omega) _ | apply Below.drew | refine Below.trans ?_ (Below.mono (by assumption) (by first | (simp; done) | (simp; omega) | omega))))).mono ?_
    rintro e w2 ⟨rfl, hU⟩
    have hb : Below w.heap.size w w2 := by
      refine Below.trans ?_ (hU.mono (by simp; omega))
      repeat (first | exact Below.refl _ _ | assumption | refine Below.alloc ?_ (by first | (simp; done) | (simp; omega) | omega) _ | refine Below.setCell ?_ (by first | (simp; done) | (simp; omega) | omega) _ | apply Below.drew | refine Below.trans ?_ (Below.mono (by assumption) (by first | (simp; done) | (simp; omega) | omega)))
    clear hU hc1
    go_wp2
    go_ret
    exact ⟨rfl, hb⟩
  · have eb : (p1 == q1) = false := by simpa using e1
    have hf : D = false := by
      rw [Bool.eq_false_iff]
      intro h
      exact e1 (congrArg Prod.fst (hD.1 h))
    subst hf
    clear hc hD e1
    go_enter Try.func47, Try.ntmps47
    go_wp2
    go_ret
    exact ⟨rfl, by repeat (first | exact Below.refl _ _ | assumption | refine Below.alloc ?_ (by first | (simp; done) | (simp; omega) | omega) _ | refine Below.setCell ?_ (by first | (simp; done) | (simp; omega) | omega) _ | apply Below.drew | refine Below.trans ?_ (Below.mono (by assumption) (by first | (simp; done) | (simp; omega) | omega)))⟩
end Go.Proofs.Ytbkaopeajjechaa

namespace Go.Proofs.Ytbkaopeajjechaa
open Go.RowKit Go.Maps

set_option maxRecDepth 100000 in
set_option maxHeartbeats 4000000 in
theorem equalNd (L1 L2 : List (Int × List Int)) (v1 v2 : Value) (hn1 : L1.length ≤ 1000000) (_ : L2.length ≤ 1000000) (hs1 : ∀ p ∈ L1, p.2.length ≤ 1000000) (hs2 : ∀ p ∈ L2, p.2.length ≤ 1000000) (w : World) (H1 : RdNd w v1 L1) (H2 : RdNd w v2 L2) (D : Bool) (hD : D = true ↔ L1 = L2) :
    Calls Try.prog 46 #[v1, v2, .func (.func 47) #[] #[]] w fun e w' => e = .returned (.bool D) ∧ Below w.heap.size w w' := by
  obtain ⟨A1, c1, rfl, h1⟩ := H1
  obtain ⟨A2, c2, rfl, h2⟩ := H2
  have HD := hide hD
  have HC1 := hide h1
  have HC2 := hide h2
  have HS1 := hide hs1
  have HS2 := hide hs2
  clear hD h1 h2 hs1 hs2
  by_cases hl : L1.length = L2.length
  · rw [← hl]
    have HL := hide hl
    clear hl
    generalize hm : L1.length = m at *
    have HM := hide hm
    clear hm
    go_enter Try.func46, Try.ntmps46
    go_wp2
    go_loopw [17] (fun i wr => ∃ k : Nat, k ≤ m ∧ i = .int .i64 k ∧ Hid (∀ j, j < k → L1[j]? = L2[j]?) ∧ Below w.heap.size w wr) (fun i _ => m - (intOf i).toNat)
    case atStart => exact ⟨0, Nat.zero_le _, rfl, hide (fun j hj => by omega), Below.refl _ _⟩
    case round =>
      obtain ⟨k, hk, rfl, HK, hB⟩ := hrel
      by_cases hlt : k < m
      · obtain ⟨x, hx⟩ : ∃ x, L1[k]? = some x := ⟨_, List.getElem?_eq_getElem (by rw [unhide HM]; exact hlt)⟩
        obtain ⟨y, hy⟩ : ∃ y, L2[k]? = some y := ⟨_, List.getElem?_eq_getElem (by rw [← unhide HL]; exact hlt)⟩
        obtain ⟨g1, u, rfl, l1', q1, q1', r1⟩ := unhide HC1 k x hx
        obtain ⟨g2, v, rfl, l2', q2, q2', r2⟩ := unhide HC2 k y hy
        have hz := hB.size
        have t1 := (hB.cell (p := ⟨g1, k * 2, none⟩) l1').trans q1
        have t1' := (hB.cell (p := ⟨g1, k * 2 + 1, none⟩) l1').trans q1'
        have t2 := (hB.cell (p := ⟨g2, k * 2, none⟩) l2').trans q2
        have t2' := (hB.cell (p := ⟨g2, k * 2 + 1, none⟩) l2').trans q2'
        have b0 : (0 : Int) ≤ (k : Int) := by omega
        have b1 : (k : Int) < (m : Int) := by omega
        have lg1 : g1 < wr.heap.size := by omega
        have lg2 : g2 < wr.heap.size := by omega
        have HX := hide hx
        have HY := hide hy
        have hc := hide (fun V (hV : Below w.heap.size w V) => nodeEq x y u v (unhide HS1 x (List.mem_of_getElem? hx)) (unhide HS2 y (List.mem_of_getElem? hy)) V (r1.keep (fun b _ e => hV.block b (Array.getElem?_eq_some_iff.1 e).1)) (r2.keep (fun b _ e => hV.block b (Array.getElem?_eq_some_iff.1 e).1)))
        obtain ⟨A3, c3, rfl, -⟩ := r1
        obtain ⟨A4, c4, rfl, -⟩ := r2
        clear q1 q2 q1' q2' hx hy
        generalize x.2.length = n3 at *
        generalize y.2.length = n4 at *
        by_cases e : x = y
        · have HE := hide e
          have hc1 := hide (fun V hV => unhide hc V hV true (by simp [e]))
          clear e hc
          generalize x.1 = x1 at *
          generalize y.1 = y1 at *
          go_wp2_with fail
          refine (unhide hc1 _ (by repeat (first | exact Below.refl _ _ | assumption | refine Below.alloc ?_ (by first | (simp; done) | (simp; omega) | omega) _ | refine Below.setCell ?_ (by first | (simp; done) | (simp; omega) | omega) _ | apply Below.drew | refine Below.trans ?_ (Below.mono (by assumption) (by first | (simp; done) | (simp; omega) | omega))))).mono ?_
          rintro e w2 ⟨rfl, hU⟩
          have hb2 : Below w.heap.size w w2 := by
            refine Below.trans ?_ (hU.mono (by simp; omega))
            repeat (first | exact Below.refl _ _ | assumption | refine Below.alloc ?_ (by first | (simp; done) | (simp; omega) | omega) _ | refine Below.setCell ?_ (by first | (simp; done) | (simp; omega) | omega) _ | apply Below.drew | refine Below.trans ?_ (Below.mono (by assumption) (by first | (simp; done) | (simp; omega) | omega)))
          have HB2 := hide hb2
          clear hU hc1 t1 t2 t1' t2' hb2
          go_wp2
          go_roundw
          case measure => simp [intOf]; omega
          case rel => exact ⟨k + 1, by omega, by go_num, hide (fun j hj => by
            by_cases ej : j = k
            · subst ej
              rw [unhide HX, unhide HY, unhide HE]
            · exact unhide HK j (by omega)), unhide HB2⟩
        · have hf : D = false := by
            rw [Bool.eq_false_iff]
            intro h
            have := (unhide HD).1 h
            rw [← this, unhide HX] at HY
            have h2 := unhide HY
            injection h2 with h2
            exact e h2
          subst hf
          have hc1 := hide (fun V hV => unhide hc V hV false (by simp [e]))
          clear e hc
          generalize x.1 = x1 at *
          generalize y.1 = y1 at *
          go_wp2_with fail
          refine (unhide hc1 _ (by repeat (first | exact Below.refl _ _ | assumption | refine Below.alloc ?_ (by first | (simp; done) | (simp; omega) | omega) _ | refine Below.setCell ?_ (by first | (simp; done) | (simp; omega) | omega) _ | apply Below.drew | refine Below.trans ?_ (Below.mono (by assumption) (by first | (simp; done) | (simp; omega) | omega))))).mono ?_
          rintro e w2 ⟨rfl, hU⟩
          have hb2 : Below w.heap.size w w2 := by
            refine Below.trans ?_ (hU.mono (by simp; omega))
            repeat (first | exact Below.refl _ _ | assumption | refine Below.alloc ?_ (by first | (simp; done) | (simp; omega) | omega) _ | refine Below.setCell ?_ (by first | (simp; done) | (simp; omega) | omega) _ | apply Below.drew | refine Below.trans ?_ (Below.mono (by assumption) (by first | (simp; done) | (simp; omega) | omega)))
          have HB2 := hide hb2
          clear hU hc1 t1 t2 t1' t2' hb2
          go_wp2
          go_ret
          exact ⟨rfl, unhide HB2⟩
      · obtain rfl : k = m := by omega
        have ht : D = true := (unhide HD).2 (ext_of (by rw [unhide HM, unhide HL]) (fun j hj => unhide HK j (by rw [unhide HM] at hj; exact hj)))
        subst ht
        go_wp2
        go_ret
        exact ⟨rfl, hB⟩
  · have hf : D = false := by
      rw [Bool.eq_false_iff]
      intro h
      exact hl (congrArg List.length ((unhide HD).1 h))
    subst hf
    generalize hm1 : L1.length = m1 at *
    generalize hm2 : L2.length = m2 at *
    have hlb : ((m1 : Int) == (m2 : Int)) = false := by simp; omega
    clear hl hm1 hm2 HC1 HC2 HD
    go_enter Try.func46, Try.ntmps46
    go_wp2
    go_ret
    exact ⟨rfl, Below.refl _ _⟩

/-- Views of a size that can be gone over. -/
def VwSm (V : List (List Int) × List (Int × List Int)) : Prop := (V.1.length ≤ 1000000 ∧ ∀ l ∈ V.1, l.length ≤ 1000000) ∧ (V.2.length ≤ 1000000 ∧ ∀ p ∈ V.2, p.2.length ≤ 1000000)

set_option maxRecDepth 100000 in
set_option maxHeartbeats 4000000 in
theorem alike_any (V1 V2 : List (List Int) × List (Int × List Int)) (v1 v2 : Value) (h1 : VwSm V1) (h2 : VwSm V2) (w : World) (H1 : RdVw w v1 V1) (H2 : RdVw w v2 V2) (D : Bool) (hD : D = true ↔ V1 = V2) :
    Calls Try.prog 25 #[v1, v2] w fun e w' => e = .returned (.bool D) ∧ Below w.heap.size w w' := by
  obtain ⟨R1, N1⟩ := V1
  obtain ⟨R2, N2⟩ := V2
  obtain ⟨a1, b1, rfl, hr1, hn1⟩ := H1
  obtain ⟨a2, b2, rfl, hr2, hn2⟩ := H2
  have cR := hide (fun W (hW : Below w.heap.size w W) => equalLL R1 R2 a1 a2 h1.1.1 h2.1.1 h1.1.2 h2.1.2 W (hr1.below hW) (hr2.below hW))
  have cN := hide (fun W (hW : Below w.heap.size w W) => equalNd N1 N2 b1 b2 h1.2.1 h2.2.1 h1.2.2 h2.2.2 W (hn1.below hW) (hn2.below hW))
  obtain ⟨A1, c1, rfl, -⟩ := hr1
  obtain ⟨A2, c2, rfl, -⟩ := hr2
  obtain ⟨B1, d1, rfl, -⟩ := hn1
  obtain ⟨B2, d2, rfl, -⟩ := hn2
  dsimp only at cR cN ⊢
  clear h1 h2
  generalize R1.length = r1 at *
  generalize R2.length = r2 at *
  generalize N1.length = n1 at *
  generalize N2.length = n2 at *
  by_cases e : R1 = R2
  · have cR1 := hide (fun W hW => unhide cR W hW true (by simp [e]))
    have cN1 := hide (fun W hW => unhide cN W hW D (by rw [hD, e]; simp))
    clear cR cN e hD
    go_enter Try.func25, Try.ntmps25
    go_wp2_with fail
    refine (unhide cR1 _ (by repeat (first | exact Below.refl _ _ | assumption | refine Below.alloc ?_ (by first | (simp; done) | (simp; omega) | omega) _ | refine Below.setCell ?_ (by first | (simp; done) | (simp; omega) | omega) _ | apply Below.drew | refine Below.trans ?_ (Below.mono (by assumption) (by first | (simp; done) | (simp; omega) | omega))))).mono ?_
    rintro e w2 ⟨rfl, hU⟩
    have hb2 : Below w.heap.size w w2 := by
      refine Below.trans ?_ (hU.mono (by simp; omega))
      repeat (first | exact Below.refl _ _ | assumption | refine Below.alloc ?_ (by first | (simp; done) | (simp; omega) | omega) _ | refine Below.setCell ?_ (by first | (simp; done) | (simp; omega) | omega) _ | apply Below.drew | refine Below.trans ?_ (Below.mono (by assumption) (by first | (simp; done) | (simp; omega) | omega)))
    have e0 : w2.cell? ⟨w.heap.size, 1, none⟩ = some (.slice B1 n1 d1) := (hU.cell (p := ⟨w.heap.size, 1, none⟩) (by simp; omega)).trans (by go_simp)
    have e1 : w2.cell? ⟨w.heap.size + 1, 1, none⟩ = some (.slice B2 n2 d2) := (hU.cell (p := ⟨w.heap.size + 1, 1, none⟩) (by simp)).trans (by go_simp)
    clear hU cR1
    go_wp2_with fail
    refine (unhide cN1 _ hb2).mono ?_
    rintro e w3 ⟨rfl, hU⟩
    have hb3 := hb2.trans (hU.mono hb2.size)
    clear hU cN1 e0 e1 hb2
    go_wp2
    go_ret
    exact ⟨rfl, hb3⟩
  · have cR1 := hide (fun W hW => unhide cR W hW false (by simp [e]))
    have hf : D = false := by
      rw [Bool.eq_false_iff]
      intro h
      exact e (congrArg Prod.fst (hD.1 h))
    subst hf
    clear cR cN e hD
    go_enter Try.func25, Try.ntmps25
    go_wp2_with fail
    refine (unhide cR1 _ (by repeat (first | exact Below.refl _ _ | assumption | refine Below.alloc ?_ (by first | (simp; done) | (simp; omega) | omega) _ | refine Below.setCell ?_ (by first | (simp; done) | (simp; omega) | omega) _ | apply Below.drew | refine Below.trans ?_ (Below.mono (by assumption) (by first | (simp; done) | (simp; omega) | omega))))).mono ?_
    rintro e w2 ⟨rfl, hU⟩
    have hb2 : Below w.heap.size w w2 := by
      refine Below.trans ?_ (hU.mono (by simp; omega))
      repeat (first | exact Below.refl _ _ | assumption | refine Below.alloc ?_ (by first | (simp; done) | (simp; omega) | omega) _ | refine Below.setCell ?_ (by first | (simp; done) | (simp; omega) | omega) _ | apply Below.drew | refine Below.trans ?_ (Below.mono (by assumption) (by first | (simp; done) | (simp; omega) | omega)))
    clear hU cR1
    go_wp2
    go_ret
    exact ⟨rfl, hb2⟩
end Go.Proofs.Ytbkaopeajjechaa

namespace Go.Proofs.Ytbkaopeajjechaa
open Go.RowKit

/-- Only the normal end. -/
def onlyN (Q : Exit → Act → World → Prop) : Exit → Act → World → Prop
  | .normal, a, w => Q .normal a w
  | _, _, _ => False

theorem onlyN_out (Q : Exit → Act → World → Prop) : ¬ LetsOut (onlyN Q) := fun ⟨_, _, h⟩ => h

def waitOn (o : Oper) (j : Nat) : Oper := { o with after := o.after.push { on := j, ground := .data } }
def waits (o : Oper) (i : Nat) : Bool := o.after.any fun e => Region.binds .any e && e.on == i

def hoistB (L : List Oper) (h j : Nat) : Bool := match L[h]? with
  | none => false
  | some oh => (match oh.op with | .move _ => true | _ => false) && decide (j < h) &&
    ((List.range L.length).all fun s => match L[s]? with
      | none => true
      | some o => (o.after.all fun e => !(Region.binds .any e) || decide (e.on < s)) && (!(waits o h) || waits o j) &&
        (s == h || waits o h || waits oh s || ((match o.dst with | some d => !(oh.looksAt L.toArray).contains d | none => true) &&
          (match oh.dst with | some d => !(o.looksAt L.toArray).contains d && o.dst != some d | none => true) && (match o.op with | .select .. => false | _ => true))))

theorem waits_iff {o : Oper} {i : Nat} : waits o i = true ↔ ∃ e ∈ o.after, Region.binds .any e = true ∧ e.on = i := by
  unfold waits
  simp only [Array.any_eq_true, Bool.and_eq_true, beq_iff_eq]
  constructor
  · rintro ⟨q, hq, hb, he⟩
    exact ⟨o.after[q], Array.getElem_mem hq, hb, he⟩
  · rintro ⟨e, he, hb, hon⟩
    obtain ⟨q, hq, rfl⟩ := Array.getElem_of_mem he
    exact ⟨q, hq, hb, hon⟩

structure Hoist (L : List Oper) (h j : Nat) (oh : Oper) (x : Operand) : Prop where
  at_ : L[h]? = some oh
  mv : oh.op = .move x
  lt : j < h
  back : ∀ (s : Nat) (o : Oper), L[s]? = some o → ∀ e ∈ o.after, Region.binds .any e = true → e.on < s
  wait : ∀ (i : Nat) (o : Oper), L[i]? = some o → waits o h = true → waits o j = true
  free : ∀ (i : Nat) (o : Oper), i ≠ h → L[i]? = some o → waits o h = true ∨ waits oh i = true ∨ ((∀ d, o.dst = some d → d ∉ oh.looksAt L.toArray) ∧ (∀ d, oh.dst = some d → d ∉ o.looksAt L.toArray ∧ o.dst ≠ some d) ∧ ∀ cs b, o.op ≠ .select cs b)

theorem Hoist.of {L : List Oper} {h j : Nat} (hb : hoistB L h j = true) : ∃ oh x, Hoist L h j oh x := by
  unfold hoistB at hb
  split at hb
  · cases hb
  rename_i oh ho
  simp only [Bool.and_eq_true, decide_eq_true_eq, List.all_eq_true, List.mem_range] at hb
  obtain ⟨⟨h1, h2⟩, h3⟩ := hb
  obtain ⟨x, hx⟩ : ∃ x, oh.op = .move x := by
    split at h1
    · exact ⟨_, by assumption⟩
    · cases h1
  have inr : ∀ (i : Nat) (o : Oper), L[i]? = some o → i < L.length := fun i o h => (List.getElem?_eq_some_iff.1 h).1
  refine ⟨oh, x, ho, hx, h2, fun s o hs e he hb => ?_, fun i o hi hw => ?_, fun i o hne hi => ?_⟩
  · have := h3 s (inr s o hs)
    rw [hs] at this
    simp only [Bool.and_eq_true] at this
    have h4 := this.1.1
    rw [Array.all_eq_true_iff_forall_mem] at h4
    have := h4 e he
    simpa [hb] using this
  · have := h3 i (inr i o hi)
    rw [hi] at this
    simp only [Bool.and_eq_true, Bool.or_eq_true, Bool.not_eq_true'] at this
    rcases this.1.2 with h | h
    · rw [h] at hw; cases hw
    · exact h
  · have := h3 i (inr i o hi)
    rw [hi] at this
    simp only [Bool.and_eq_true, Bool.or_eq_true, beq_iff_eq] at this
    rcases this.2 with ((h | h) | h) | h
    · exact absurd h hne
    · exact .inl h
    · exact .inr (.inl h)
    · refine .inr (.inr ⟨fun d hd hm => ?_, fun d hd => ?_, fun cs b e => ?_⟩)
      · have h4 := h.1.1
        rw [hd] at h4
        simp only [Bool.not_eq_true'] at h4
        rw [List.contains_iff_mem.2 hm] at h4
        cases h4
      · have h4 := h.1.2
        rw [hd] at h4
        simp only [Bool.and_eq_true, Bool.not_eq_true', bne_iff_ne] at h4
        exact ⟨fun hm => (by rw [List.contains_iff_mem.2 hm] at h4; exact absurd h4.1 (by simp)), h4.2⟩
      · have h4 := h.2
        rw [e] at h4
        cases h4

section
variable {P : Program} {L : List Oper} {h j : Nat} {oh : Oper} {x : Operand} {Q : Exit → Act → World → Prop}

abbrev hSet (L : List Oper) (h j : Nat) (oh : Oper) : List Oper := L.set h (waitOn oh j)

theorem hSet_at (H : Hoist L h j oh x) (i : Nat) : (hSet L h j oh)[i]? = if i = h then some (waitOn oh j) else L[i]? := by
  unfold hSet
  rw [List.getElem?_set]
  have := (List.getElem?_eq_some_iff.1 H.at_).1
  by_cases e : h = i
  · rw [if_pos e, if_pos e.symm, if_pos (by omega)]
  · rw [if_neg e, if_neg (fun k => e k.symm)]

theorem yielded_set (H : Hoist L h j oh x) (tmps : Array Value) : yielded (hSet L h j oh).toArray tmps = yielded L.toArray tmps := by
  funext i
  unfold yielded
  rw [List.getElem?_toArray, List.getElem?_toArray, hSet_at H]
  by_cases e : i = h
  · rw [if_pos e, e, H.at_]
    rfl
  · rw [if_neg e]

theorem wpOp_set (H : Hoist L h j oh x) {i : Nat} {K : Act → World → Prop} {a : Act} {w : World} : wpOp P (hSet L h j oh).toArray Q i K a w = wpOp P L.toArray Q i K a w := by
  unfold wpOp
  rw [List.getElem?_toArray, List.getElem?_toArray, hSet_at H, yielded_set H]
  by_cases e : i = h
  · subst e
    rw [if_pos rfl, H.at_]
    rfl
  · rw [if_neg e]

theorem ready_set (H : Hoist L h j oh x) {i : Nat} {listed : Array Bool} (hs : listed.size = L.length) :
    i ∈ Region.ready .any (hSet L h j oh).toArray listed ↔ i ∈ Region.ready .any L.toArray listed ∧ (i = h → listed[j]? = some true) := by
  rw [mem_ready' (L := hSet L h j oh) (by unfold hSet; rw [List.length_set]; exact hs), mem_ready' hs, hSet_at H]
  by_cases e : i = h
  · subst e
    rw [if_pos rfl, H.at_]
    constructor
    · rintro ⟨h1, o, h2, h3⟩
      injection h2 with h2
      subst h2
      have h4 : ∀ e ∈ oh.after.push { on := j, ground := .data }, Region.binds .any e = true → listed[e.on]? = some true := h3
      exact ⟨⟨h1, oh, rfl, fun e he hb => h4 e (Array.mem_push.2 (.inl he)) hb⟩, fun _ => h4 { on := j, ground := .data } (Array.mem_push.2 (.inr rfl)) rfl⟩
    · rintro ⟨⟨h1, o, h2, h3⟩, h4⟩
      injection h2 with h2
      subst h2
      refine ⟨h1, _, rfl, fun e he hb => ?_⟩
      have he : e ∈ oh.after.push { on := j, ground := .data } := he
      rcases Array.mem_push.1 he with he | he
      · exact h3 e he hb
      · subst he
        exact h4 rfl
  · rw [if_neg e]
    exact ⟨fun hh => ⟨hh, fun k => absurd k e⟩, fun hh => hh.1⟩

/-- What the move yields. -/
def mvV (L : List Oper) (oh : Oper) (x : Operand) (a : Act) : Value := if Region.wanted oh (yielded L.toArray a.tmps) then a.eval x else undef

theorem wpOp_h (H : Hoist L h j oh x) {K : Act → World → Prop} {a : Act} {w : World} : wpOp P L.toArray (onlyN Q) h K a w ↔ K (a.put oh.dst (mvV L oh x a)) w := by
  unfold wpOp mvV
  rw [List.getElem?_toArray, H.at_]
  dsimp only
  have he : (execOp a.eval oh).run P w = .ok (.value (a.eval x)) w := by
    unfold execOp
    rw [H.mv]
    rfl
  split
  · rename_i hw
    unfold Oper.wp
    rw [he]
    constructor
    · rintro (h | ⟨_, h⟩)
      · exact h
      · exact absurd h (onlyN_out Q)
    · exact fun h => .inl h
  · exact Iff.rfl

theorem mvV_put (H : Hoist L h j oh x) (a : Act) (dst : Option Tmp) (v : Value) (hd : ∀ d, dst = some d → d ∉ oh.looksAt L.toArray) : mvV L oh x (a.put dst v) = mvV L oh x a := by
  unfold mvV
  rw [wanted_put oh a dst v hd]
  have : (a.put dst v).eval x = a.eval x := Act.eval_put fun d h1 h2 => hd d h1 (by
    subst h2
    unfold Oper.looksAt
    rw [H.mv]
    exact List.mem_append_left _ (by simp [Op.operands]))
  rw [this]

theorem upon_put {o : Oper} {dh : Option Tmp} {u : Value} {K K' : Act → World → Prop} {a : Act} (hc : ∀ d, o.dst = some d → dh ≠ some d) (hv : Act → Value) (hv1 : ∀ v, hv (a.put o.dst v) = u) (hv2 : ∀ (b : Act) (ds : List Deferred), hv { b with defers := ds } = hv b)
    (hK : ∀ a' w', hv a' = u → K a' w' → K' (a'.put dh u) w') : ∀ r : Result Next, o.upon P a K (onlyN Q) r → o.upon P (a.put dh u) K' (onlyN Q) r
  | .ok (.value v) w', h => by
    show K' ((a.put dh u).put o.dst v) w'
    rw [← Act.put_comm a v u hc]
    exact hK _ _ (hv1 v) h
  | .ok .skip w', h => by
    show K' ((a.put dh u).put o.dst undef) w'
    rw [← Act.put_comm a undef u hc]
    exact hK _ _ (hv1 undef) h
  | .ok (.defer d) w', h => by
    have e : ({ (a.put dh u) with defers := d :: (a.put dh u).defers } : Act).put o.dst undef = (({ a with defers := d :: a.defers } : Act).put o.dst undef).put dh u := by
      rw [Act.put_comm _ undef u hc]
      cases dh <;> rfl
    show K' (({ (a.put dh u) with defers := d :: (a.put dh u).defers } : Act).put o.dst undef) w'
    rw [e]
    refine hK _ _ ?_ h
    have e2 : (({ a with defers := d :: a.defers } : Act).put o.dst undef) = { (a.put o.dst undef) with defers := d :: a.defers } := by cases o.dst <;> rfl
    rw [e2, hv2]
    exact hv1 undef
  | .ok (.enter f args) w', h => by
    refine Calls.mono h ?_
    rintro e w'' he
    cases e with
    | returned v =>
      show K' ((a.put dh u).put o.dst v) w''
      rw [← Act.put_comm a v u hc]
      exact hK _ _ (hv1 v) he
    | panicked c => exact he.elim
    | outgrown => exact absurd he (onlyN_out Q)
  | .ok (.row r args) w', h => by
    refine Rows.mono h ?_
    rintro v w'' he
    show K' ((a.put dh u).put o.dst v) w''
    rw [← Act.put_comm a v u hc]
    exact hK _ _ (hv1 v) he
  | .halt (.panic v) w', h => h.elim

theorem count_set : ∀ (l : List Bool) (i : Nat), l[i]? = some false → (l.set i true).count false + 1 = l.count false
  | b :: l, 0, h => by
    simp at h
    subst h
    simp
  | b :: l, i + 1, h => by
    have := count_set l i (by simpa using h)
    rw [List.set_cons_succ, List.count_cons, List.count_cons]
    omega
theorem count_arr (l : Array Bool) (i : Nat) (h : l[i]? = some false) : (l.setIfInBounds i true).toList.count false + 1 = l.toList.count false := by
  rw [Array.toList_setIfInBounds]
  exact count_set _ _ (by simpa using h)
theorem count_pos (l : Array Bool) (i : Nat) (h : l[i]? = some false) : 1 ≤ l.toList.count false := by
  have := count_arr l i h
  omega

theorem progress (H : Hoist L h j oh x) {listed : Array Bool} (hs : listed.size = L.length) : ∀ (n i : Nat), i ≤ n → listed[i]? = some false → ∃ m, m ≤ i ∧ m ∈ Region.ready .any L.toArray listed
  | n, i, hin, hi => by
    induction n generalizing i with
    | zero =>
      have hl : i < L.length := by have := (Array.getElem?_eq_some_iff.1 hi).1; omega
      refine ⟨i, Nat.le_refl _, (mem_ready' hs).2 ⟨hi, L[i], List.getElem?_eq_getElem hl, fun e he hb => ?_⟩⟩
      have := H.back i L[i] (List.getElem?_eq_getElem hl) e he hb
      omega
    | succ n ih =>
      have hl : i < L.length := by have := (Array.getElem?_eq_some_iff.1 hi).1; omega
      by_cases hc : ∃ q, q < i ∧ listed[q]? = some false
      · obtain ⟨q, hq, hql⟩ := hc
        obtain ⟨m, hm, hr⟩ := ih q (by omega) hql
        exact ⟨m, by omega, hr⟩
      · refine ⟨i, Nat.le_refl _, (mem_ready' hs).2 ⟨hi, L[i], List.getElem?_eq_getElem hl, fun e he hb => ?_⟩⟩
        have hlt := H.back i L[i] (List.getElem?_eq_getElem hl) e he hb
        have hq : e.on < listed.size := by omega
        cases hv : listed[e.on] with
        | true => rw [Array.getElem?_eq_getElem hq, hv]
        | false => exact absurd ⟨e.on, hlt, by rw [Array.getElem?_eq_getElem hq, hv]⟩ hc

theorem hoist (H : Hoist L h j oh x) : ∀ (fuel : Nat),
    (∀ (listed : Array Bool) (a : Act) (w : World), listed.size = L.length → listed.toList.count false ≤ fuel → wpAny P .any (hSet L h j oh).toArray (onlyN Q) fuel listed a w → wpAny P .any L.toArray (onlyN Q) fuel listed a w) ∧
    (∀ (listed : Array Bool) (a : Act) (w : World), listed.size = L.length → listed.toList.count false ≤ fuel + 1 → listed[j]? = some false → h ∈ Region.ready .any L.toArray listed →
      wpAny P .any (hSet L h j oh).toArray (onlyN Q) (fuel + 1) listed a w → wpAny P .any L.toArray (onlyN Q) fuel (listed.setIfInBounds h true) (a.put oh.dst (mvV L oh x a)) w) := by
  intro fuel
  induction fuel with
  | zero =>
    refine ⟨fun listed a w hs hc hw => ?_, fun listed a w hs hc hj hr hw => ?_⟩
    · refine ⟨?_, hw.2⟩
      apply Classical.byContradiction
      intro hne
      obtain ⟨i, hi⟩ := List.exists_mem_of_ne_nil _ hne
      have := count_pos listed i ((mem_ready' hs).1 hi).1
      omega
    · have h1 := ((mem_ready' hs).1 hr).1
      have h2 := count_arr listed h h1
      have h3 := count_pos (listed.setIfInBounds h true) j (by
        rw [Array.getElem?_setIfInBounds, if_neg (by have := H.lt; omega)]
        exact hj)
      omega
  | succ fuel ih =>
    have hA := ih.1
    have hB := ih.2
    have A : ∀ (listed : Array Bool) (a : Act) (w : World), listed.size = L.length → listed.toList.count false ≤ fuel + 1 → wpAny P .any (hSet L h j oh).toArray (onlyN Q) (fuel + 1) listed a w → wpAny P .any L.toArray (onlyN Q) (fuel + 1) listed a w := fun listed a w hs hc hw => by
      refine ⟨fun h0 => hw.1 ?_, fun i hi => ?_⟩
      · apply Classical.byContradiction
        intro hne
        obtain ⟨i, hi⟩ := List.exists_mem_of_ne_nil _ hne
        have := ((ready_set H hs).1 hi).1
        rw [h0] at this
        cases this
      · have hil := ((mem_ready' hs).1 hi).1
        have hcs := count_arr listed i hil
        by_cases hc2 : i = h → listed[j]? = some true
        · have h2 := hw.2 i ((ready_set H hs).2 ⟨hi, hc2⟩)
          rw [wpOp_set H] at h2
          refine wpOp_mono (fun a' w' hh => hA _ a' w' (by rw [Array.size_setIfInBounds]; exact hs) (by omega) hh) h2
        · obtain ⟨rfl, hj⟩ : i = h ∧ ¬ listed[j]? = some true := ⟨Classical.byContradiction (fun e => hc2 (fun k => absurd k e)), fun e => hc2 (fun _ => e)⟩
          have hjl : j < listed.size := by
            have h1 := H.lt
            have h2 := (List.getElem?_eq_some_iff.1 H.at_).1
            omega
          have hj' : listed[j]? = some false := by
            rw [Array.getElem?_eq_getElem hjl] at hj ⊢
            cases e : listed[j] with
            | true => rw [e] at hj; exact absurd rfl hj
            | false => rfl
          rw [wpOp_h H]
          exact hB listed a w hs hc hj' hi hw
    refine ⟨A, fun listed a w hs hc hj hr hw => ?_⟩
    have hhl := ((mem_ready' hs).1 hr).1
    have hs2 : (listed.setIfInBounds h true).size = L.length := by rw [Array.size_setIfInBounds]; exact hs
    have hj2 : (listed.setIfInBounds h true)[j]? = some false := by
      rw [Array.getElem?_setIfInBounds, if_neg (by have := H.lt; omega)]
      exact hj
    refine ⟨fun h0 => ?_, fun i hi => ?_⟩
    · obtain ⟨m, _, hm⟩ := progress H hs2 j j (Nat.le_refl _) hj2
      rw [h0] at hm
      cases hm
    · obtain ⟨hil, o, ho, haf⟩ := (mem_ready' hs2).1 hi
      have hih : i ≠ h := fun e => by
        subst e
        rw [Array.getElem?_setIfInBounds, if_pos rfl, if_pos (by have := (Array.getElem?_eq_some_iff.1 hhl).1; omega)] at hil
        cases hil
      have hil2 : listed[i]? = some false := by
        rw [Array.getElem?_setIfInBounds, if_neg (fun e => hih e.symm)] at hil
        exact hil
      have hnw : ¬ waits o h = true := fun hw' => by
        obtain ⟨e, he, hb, hon⟩ := waits_iff.1 (H.wait i o ho hw')
        have := haf e he hb
        rw [hon, hj2] at this
        cases this
      have hnw2 : ¬ waits oh i = true := fun hw' => by
        obtain ⟨e, he, hb, hon⟩ := waits_iff.1 hw'
        obtain ⟨_, o2, ho2, haf2⟩ := (mem_ready' hs).1 hr
        rw [H.at_] at ho2
        cases ho2
        have := haf2 e he hb
        rw [hon, hil2] at this
        cases this
      obtain ⟨p1, p2, p3⟩ := ((H.free i o hih ho).resolve_left hnw).resolve_left hnw2
      have hri : i ∈ Region.ready .any (hSet L h j oh).toArray listed := (ready_set H hs).2 ⟨(mem_ready' hs).2 ⟨hil2, o, ho, fun e he hb => by
        have h1 := haf e he hb
        by_cases e2 : h = e.on
        · exact absurd (waits_iff.2 ⟨e, he, hb, e2.symm⟩) hnw
        · rwa [Array.getElem?_setIfInBounds, if_neg e2] at h1⟩, fun e => absurd e hih⟩
      have h2 := hw.2 i hri
      rw [wpOp_set H] at h2
      have hcs := count_arr listed i hil2
      have hK : ∀ a' w', mvV L oh x a' = mvV L oh x a → wpAny P .any (hSet L h j oh).toArray (onlyN Q) (fuel + 1) (listed.setIfInBounds i true) a' w' →
          wpAny P .any L.toArray (onlyN Q) fuel ((listed.setIfInBounds h true).setIfInBounds i true) (a'.put oh.dst (mvV L oh x a)) w' := fun a' w' hv hk => by
        have hs3 : (listed.setIfInBounds i true).size = L.length := by rw [Array.size_setIfInBounds]; exact hs
        have hcm : (listed.setIfInBounds h true).setIfInBounds i true = (listed.setIfInBounds i true).setIfInBounds h true := by
          apply Array.ext_getElem?
          intro q
          simp only [Array.getElem?_setIfInBounds]
          split <;> split <;> simp_all
        have hrh : h ∈ Region.ready .any L.toArray (listed.setIfInBounds i true) := by
          obtain ⟨_, o2, ho2, haf2⟩ := (mem_ready' hs).1 hr
          refine (mem_ready' hs3).2 ⟨by rw [Array.getElem?_setIfInBounds, if_neg hih]; exact hhl, o2, ho2, fun e he hb => ?_⟩
          rw [Array.getElem?_setIfInBounds]
          split
          · rename_i e2
            rw [if_pos (by have := (Array.getElem?_eq_some_iff.1 hil2).1; omega)]
          · exact haf2 e he hb
        rw [hcm, ← hv]
        by_cases eij : i = j
        · subst eij
          have hrh' : h ∈ Region.ready .any (hSet L h i oh).toArray (listed.setIfInBounds i true) := (ready_set H hs3).2 ⟨hrh, fun _ => by rw [Array.getElem?_setIfInBounds, if_pos rfl, if_pos (by have := (Array.getElem?_eq_some_iff.1 hil2).1; omega)]⟩
          have h3 := hk.2 h hrh'
          rw [wpOp_set H, wpOp_h H] at h3
          have h4 := count_arr (listed.setIfInBounds i true) h (by rw [Array.getElem?_setIfInBounds, if_neg hih]; exact hhl)
          exact hA _ _ _ (by rw [Array.size_setIfInBounds]; exact hs3) (by omega) h3
        · exact hB _ a' w' hs3 (by omega) (by rw [Array.getElem?_setIfInBounds, if_neg eij]; exact hj) hrh hk
      unfold wpOp at h2 ⊢
      rw [List.getElem?_toArray, ho] at h2 ⊢
      dsimp only at h2 ⊢
      rw [wanted_put o a oh.dst _ (fun d hd => (p2 d hd).1)]
      split
      · rename_i hwn
        rw [if_pos hwn] at h2
        rcases h2 with h2 | ⟨_, h2⟩
        · left
          unfold Oper.wp at h2 ⊢
          rw [execOp_put (ops := L.toArray) o p3 a oh.dst _ (fun d hd => (p2 d hd).1)]
          exact upon_put (fun d hd e => (p2 d e).2 hd) (mvV L oh x) (fun v => mvV_put H a o.dst v p1) (fun b ds => rfl) hK _ h2
        · exact absurd h2 (onlyN_out Q)
      · rename_i hwn
        rw [if_neg hwn] at h2
        rw [← Act.put_comm a undef _ (fun d hd e => (p2 d e).2 hd)]
        exact hK _ _ (mvV_put H a o.dst undef p1) h2

theorem wpQuiet_set (H : Hoist L h j oh x) {C : World → Prop} {Q1 : Act → Prop} : ∀ (l : List Oper) (a : Act), wpQuiet P (hSet L h j oh).toArray C Q1 l a = wpQuiet P L.toArray C Q1 l a
  | [], a => rfl
  | o :: l, a => by
    unfold wpQuiet
    rw [yielded_set H]
    have e : wpQuiet P (hSet L h j oh).toArray C Q1 l = wpQuiet P L.toArray C Q1 l := funext fun b => wpQuiet_set H l b
    simp only [e]

theorem wpList_set0 (H : Hoist L h j oh x) : ∀ (l : List Oper) (a : Act) (w : World), wpList P (hSet L h j oh).toArray Q l a w = wpList P L.toArray Q l a w
  | [], a, w => rfl
  | o :: l, a, w => by
    unfold wpList
    rw [yielded_set H]
    have : wpList P (hSet L h j oh).toArray Q l = wpList P L.toArray Q l := funext fun b => funext fun u => wpList_set0 H l b u
    simp only [this]

theorem wpList_set (H : Hoist L h j oh x) : ∀ (l : List Oper) (i : Nat) (a : Act) (w : World), l[i]? = some oh → wpList P (hSet L h j oh).toArray Q (l.set i (waitOn oh j)) a w = wpList P L.toArray Q l a w
  | o :: l, 0, a, w, hi => by
    have hi : o = oh := by simpa using hi
    subst hi
    rw [List.set_cons_zero]
    unfold wpList
    rw [yielded_set H]
    have : wpList P (hSet L h j o).toArray Q l = wpList P L.toArray Q l := funext fun b => funext fun u => wpList_set0 H l b u
    simp only [this]
    rfl
  | o :: l, i + 1, a, w, hi => by
    rw [List.set_cons_succ]
    unfold wpList
    rw [yielded_set H]
    have : wpList P (hSet L h j oh).toArray Q (l.set i (waitOn oh j)) = wpList P L.toArray Q l := funext fun b => funext fun u => wpList_set H l i b u (by simpa using hi)
    simp only [this]

theorem wpAny_only {ops : Array Oper} : ∀ (fuel : Nat) (listed : Array Bool) (a : Act) (w : World), wpAny P .any ops (onlyN Q) fuel listed a w → wpAny P .any ops Q fuel listed a w
  | 0, _, _, _, hh => hh
  | fuel + 1, listed, a, w, hh => by
    refine ⟨hh.1, fun i hi => ?_⟩
    have h2 := hh.2 i hi
    unfold wpOp at h2 ⊢
    split
    · rename_i e
      rw [e] at h2
      exact wpAny_only fuel _ _ _ h2
    · rename_i o e
      rw [e] at h2
      dsimp only at h2 ⊢
      split
      · rename_i hw
        rw [if_pos hw] at h2
        rcases h2 with h2 | ⟨_, h2⟩
        · left
          unfold Oper.wp at h2 ⊢
          generalize (execOp a.eval o).run P w = r at h2 ⊢
          cases r with
          | halt hl w' =>
            cases hl <;> first | exact h2.elim | exact h2
          | ok n w' =>
            cases n with
            | value v => exact wpAny_only fuel _ _ _ h2
            | skip => exact wpAny_only fuel _ _ _ h2
            | defer d => exact wpAny_only fuel _ _ _ h2
            | row r args => exact Rows.mono h2 fun v w'' hh => wpAny_only fuel _ _ _ hh
            | enter f args =>
              refine Calls.mono h2 ?_
              rintro e w'' he
              cases e with
              | returned v => exact wpAny_only fuel _ _ _ he
              | panicked c => exact he.elim
              | outgrown => exact absurd he (onlyN_out Q)
            | _ => exact h2.elim
        · exact absurd h2 (onlyN_out Q)
      · rename_i hw
        rw [if_neg hw] at h2
        exact wpAny_only fuel _ _ _ h2

/-- The first k operations once, in the text's order; then the others as they stand: where operation h, a move, is held back till operation j is done. It does not panic. -/
theorem wp_region_wait (h j k : Nat) {C : World → Prop} {id : Nat} {a : Act} {w : World} (hm : P.follows .mixedOrders = true) (hH : hoistB L h j = true) (hkh : k ≤ h)
    (hB : (match L[h]? with | some oh => headB (L.set h (waitOn oh j)) k | none => false) = true) (hC : C w.drew)
    (hq : wpQuiet P L.toArray C (fun a' => ∀ U, C U → wpList P L.toArray (onlyN Q) (L.drop k) a' U) (L.take k) a) : (Code.region id L.toArray true).wp P Q a w := by
  obtain ⟨oh, x, H⟩ := Hoist.of hH
  rw [H.at_] at hB
  have hhl := (List.getElem?_eq_some_iff.1 H.at_).1
  simp only [headB, Bool.and_eq_true] at hB
  have hF := Forced.of hB.2
  have hlen : (hSet L h j oh).length = L.length := by unfold hSet; rw [List.length_set]
  have hk : k ≤ (hSet L h j oh).length := by omega
  refine wp_region_any hm ?_
  have hlx := hB.1
  simp only [Region.lexB, Bool.and_eq_true] at hlx
  have ht : (hSet L h j oh).take k = L.take k := by
    unfold hSet
    rw [List.take_set]
    exact List.set_eq_of_length_le (by simp; omega)
  have hd : (hSet L h j oh).drop k = (L.drop k).set (h - k) (waitOn oh j) := by
    unfold hSet
    rw [List.drop_set, if_neg (by omega)]
  have hat : (L.drop k)[h - k]? = some oh := by
    rw [List.getElem?_drop, show k + (h - k) = h by omega]
    exact H.at_
  have hq' : wpQuiet P (hSet L h j oh).toArray C (fun a' => ∀ U, C U → wpList P (hSet L h j oh).toArray (onlyN Q) ((hSet L h j oh).drop k) a' U) ((hSet L h j oh).take k) a := by
    rw [ht, hd, wpQuiet_set H]
    have : (fun a' => ∀ U, C U → wpList P (hSet L h j oh).toArray (onlyN Q) ((L.drop k).set (h - k) (waitOn oh j)) a' U) = (fun a' => ∀ U, C U → wpList P L.toArray (onlyN Q) (L.drop k) a' U) := funext fun a' => propext (forall_congr' fun U => by rw [wpList_set H _ _ _ _ hat])
    rw [this]
    exact hq
  have hq2 : wpQuiet P (headOps (hSet L h j oh) k).toArray C (fun a' => ∀ U, C U → wpList P (hSet L h j oh).toArray (onlyN Q) ((hSet L h j oh).drop k) a' U) (headOps (hSet L h j oh) k) a := by
    show wpQuiet P (headOps (hSet L h j oh) k).toArray C _ ((hSet L h j oh).take k ++ ((hSet L h j oh).drop k).map idle) a
    refine quiet_head hF _ (fun a ha => quiet_idle _ a ha) ((hSet L h j oh).take k) 0 a (fun i hi => ?_) hq'
    have : i < k := by simp at hi; omega
    exact ⟨by omega, by rw [Nat.zero_add, List.getElem?_take_of_lt this]⟩
  have hl := wpAnyQ_lex (C := C) (md := .any) hlx.1 (headOps (hSet L h j oh) k) 0 (Array.replicate (headOps (hSet L h j oh) k).length false) a (by simp) (by simpa using hlx.2) hq2
  have hfin : wpAny P .any (hSet L h j oh).toArray (onlyN Q) (hSet L h j oh).length (Array.replicate (hSet L h j oh).length false) a w.drew := by
    refine head_any hF (fun a h => h) _ _ a _ hC (by simp) ?_ ?_ ?_
    · intro s o ho hl e he hb
      rw [Array.getElem?_replicate] at hl
      split at hl <;> simp at hl
    · intro i hi hil
      rw [Array.getElem?_replicate, if_pos hil]
    · rw [headOps_len (hSet L h j oh) hk] at hl
      simpa using hl
  rw [hlen] at hfin
  have hgo := (hoist H L.length).1 _ _ _ (by simp) (by simp) hfin
  have := wpAny_only _ _ _ _ hgo
  simpa using this
end

theorem wp_region_wait_later (h j k : Nat) {P : Program} (w0 : World) {id : Nat} {Q : Exit → Act → World → Prop} {a : Act} {w : World} {L : List Oper} (hm : P.follows .mixedOrders = true) (hH : hoistB L h j = true) (hkh : k ≤ h)
    (hB : (match L[h]? with | some oh => headB (L.set h (waitOn oh j)) k | none => false) = true) (hC : Below w0.heap.size w0 w.drew)
    (hq : wpQuiet P L.toArray (fun U => ∃ s : Later w0, U = s.val) (fun a' => ∀ U, Below w0.heap.size w0 U → wpList P L.toArray (onlyN Q) (L.drop k) a' U) (L.take k) a) : (Code.region id L.toArray true).wp P Q a w := by
  refine wp_region_wait (C := fun U => ∃ s : Later w0, U = s.val) h j k hm hH hkh hB (Later.iff.2 hC) ?_
  have e : (fun a' => ∀ U, (fun U => ∃ s : Later w0, U = s.val) U → wpList P L.toArray (onlyN Q) (L.drop k) a' U) = (fun a' => ∀ U, Below w0.heap.size w0 U → wpList P L.toArray (onlyN Q) (L.drop k) a' U) := funext fun a' => propext ⟨fun hh w' hw => hh w' (Later.iff.2 hw), fun hh w' hw => hh w' (Later.iff.1 hw)⟩
  rw [e]
  exact hq
end Go.Proofs.Ytbkaopeajjechaa

namespace Go.Proofs.Ytbkaopeajjechaa
open Go.RowKit Go.Maps

section
variable {T : Nat} {sp : Int} {len : Nat} {S : Nat → ByteArray} {w : World} {L L2 : Lay} {G G2 : Gr} {md md2 : Int}

theorem view_small (H : IsG T sp len S w L G md) (hnn : G.n ≤ 1000000) : VwSm (G.view T S) := by
  have hone := H.one
  have hrl := reach_len H.isIn
  have hro := reach_ok H.isIn
  refine ⟨⟨?_, fun l hl => ?_⟩, ⟨?_, fun p hp => ?_⟩⟩
  · show ((List.range T).map _).length ≤ _
    simp
    omega
  · obtain ⟨t, _, rfl⟩ := List.mem_map.1 hl
    simp [vrow]
  · show ((G.reach T S).map _).length ≤ _
    simp
    omega
  · obtain ⟨x, hx, rfl⟩ := List.mem_map.1 hp
    have h1 := (H.obj x (hro.2 x hx).2).num
    have h2 := (H.ok.tab.2.2 _ (H.ok.sh x h1.1 h1.2)).1
    simp [vnode]
    omega

set_option maxRecDepth 100000 in
set_option maxHeartbeats 4000000 in
theorem same_any (H : IsG T sp len S w L G md) (H2 : IsG T sp len S w L2 G2 md2) (hn : G.n ≤ 1000000) (hn2 : G2.n ≤ 1000000) (hA : L.shA = L2.shA) (D : Bool) (hD : D = true ↔ G.view T S = G2.view T S) :
    Calls Try.prog 26 #[.pointer (some ⟨L.g, 0, none⟩), .pointer (some ⟨L2.g, 0, none⟩)] w fun e w' => e = .returned (.bool D) ∧ Below w.heap.size w w' := by
  have c1 := hide (fun W (hW : Below w.heap.size w W) => none_no (H.below hW))
  have c2 := hide (fun W (hW : Below w.heap.size w W) => none_no (H2.below hW))
  have cv1 := hide (fun W (hW : Below w.heap.size w W) => view_any (H.below hW) hn)
  have cv2 := hide (fun W (hW : Below w.heap.size w W) => view_any (H2.below hW) hn2)
  have hlen := H.ok.tab
  have cS := hide (fun v : Later w => equalS len S L.shA L.shcap L2.shcap (by have := hlen.2.1; omega) v.val (H.below v.ok).shp)
  have vs1 := hide (view_small H hn)
  have vs2 := hide (view_small H2 hn2)
  have g0 := H.c0
  have g1 := H.c1
  have g2 := H.c2
  have k0 := H2.c0
  have k1 := H2.c1
  have k2 := H2.c2
  rw [← hA] at k2
  have u0 := Later.cell (w := w) (block_lt g0) g0
  have u1 := Later.cell (w := w) (block_lt g1) g1
  have u2 := Later.cell (w := w) (block_lt g2) g2
  have u3 := Later.cell (w := w) (block_lt k0) k0
  have u4 := Later.cell (w := w) (block_lt k1) k1
  have u5 := Later.cell (w := w) (block_lt k2) k2
  have HD := hide hD
  clear H H2 hA hD hlen g0 g1 g2 k0 k1 k2
  go_enter Try.func26, Try.ntmps26
  go_wp2_with fail
  refine (unhide c1 _ (Below.refl _ _)).mono ?_
  rintro e w' ⟨rfl, rfl⟩
  go_wp2_with fail
  refine (unhide c2 _ (Below.refl _ _)).mono ?_
  rintro e w' ⟨rfl, rfl⟩
  go_wp2_with fail
  refine wp_region_wait_later 40 39 38 w (by kernel_rfl) (by kernel_rfl) (by decide) (by kernel_rfl) (by repeat (first | exact Below.refl _ _ | assumption | refine Below.alloc ?_ (by first | (simp; done) | (simp; omega) | omega) _ | refine Below.setCell ?_ (by first | (simp; done) | (simp; omega) | omega) _ | apply Below.drew | refine Below.trans ?_ (Below.mono (by assumption) (by first | (simp; done) | (simp; omega) | omega)))) ?_; simp only [List.take_succ_cons, List.take_zero]; (repeat (first | go_big_quiet_skip | (go_big_quiet_want; (first | ((fail); go_big_quiet_on; simp only [Act.put, List.setIfInBounds_toArray, List.set_cons_zero, List.set_cons_succ]) | (go_big_quiet_op; (first | go_big_quiet_on | go_big_quiet_call (((go_at_call 49; exact later_call (unhide cS _)))))))))); refine wpQuiet_nil ?_; intro U hU; simp only [List.drop_succ_cons, List.drop_zero]
  clear u0 u1 u2 u3 u4 u5 c1 c2 cS
  have HU := hide hU
  go_wp2_with fail
  refine (unhide cv1 _ (unhide HU)).mono ?_
  rintro e w2 ⟨v1, rfl, hv1, hb1⟩
  have HB2 := hide ((unhide HU).trans (hb1.mono (unhide HU).size))
  have HV1 := hide hv1
  clear hv1 hb1 cv1
  go_wp2_with fail
  refine (unhide cv2 _ (unhide HB2)).mono ?_
  rintro e w3 ⟨v2, rfl, hv2, hb2⟩
  have HB3 := hide ((unhide HB2).trans (hb2.mono (unhide HB2).size))
  have hc := alike_any (G.view T S) (G2.view T S) v1 v2 (unhide vs1) (unhide vs2) w3 ((unhide HV1).below hb2) hv2 D (unhide HD)
  clear hv2 hb2 cv2
  go_wp2_with fail
  refine hc.mono ?_
  rintro e w4 ⟨rfl, hb3⟩
  have HB4 := hide ((unhide HB3).trans (hb3.mono (unhide HB3).size))
  clear hb3 hc
  go_wp2_with fail
  simp only [onlyN]
  go_wp2
  go_ret
  exact ⟨rfl, unhide HB4⟩

/-- A graph that is not there, or one without slots. -/
theorem same_nn (p q : Option Addr) (w : World) (h1 : ∀ W, Below w.heap.size w W → Calls Try.prog 31 #[.pointer p] W fun e w' => e = .returned (.bool true) ∧ W = w') (h2 : ∀ W, Below w.heap.size w W → Calls Try.prog 31 #[.pointer q] W fun e w' => e = .returned (.bool true) ∧ W = w') :
    Calls Try.prog 26 #[.pointer p, .pointer q] w fun e w' => e = .returned (.bool true) ∧ Below w.heap.size w w' := by
  have c1 := hide h1
  have c2 := hide h2
  clear h1 h2
  go_enter Try.func26, Try.ntmps26
  go_wp2_with fail
  refine (unhide c1 _ (Below.refl _ _)).mono ?_
  rintro e w' ⟨rfl, rfl⟩
  go_wp2_with fail
  refine (unhide c1 _ (Below.refl _ _)).mono ?_
  rintro e w' ⟨rfl, rfl⟩
  go_wp2_with fail
  refine (unhide c2 _ (Below.refl _ _)).mono ?_
  rintro e w' ⟨rfl, rfl⟩
  go_wp2
  go_ret
  exact ⟨rfl, Below.refl _ _⟩
theorem same_ng (p q : Option Addr) (w : World) (h1 : ∀ W, Below w.heap.size w W → Calls Try.prog 31 #[.pointer p] W fun e w' => e = .returned (.bool true) ∧ W = w') (h2 : ∀ W, Below w.heap.size w W → Calls Try.prog 31 #[.pointer q] W fun e w' => e = .returned (.bool false) ∧ W = w') :
    Calls Try.prog 26 #[.pointer p, .pointer q] w fun e w' => e = .returned (.bool false) ∧ Below w.heap.size w w' := by
  have c1 := hide h1
  have c2 := hide h2
  clear h1 h2
  go_enter Try.func26, Try.ntmps26
  go_wp2_with fail
  refine (unhide c1 _ (Below.refl _ _)).mono ?_
  rintro e w' ⟨rfl, rfl⟩
  go_wp2_with fail
  refine (unhide c1 _ (Below.refl _ _)).mono ?_
  rintro e w' ⟨rfl, rfl⟩
  go_wp2_with fail
  refine (unhide c2 _ (Below.refl _ _)).mono ?_
  rintro e w' ⟨rfl, rfl⟩
  go_wp2
  go_ret
  exact ⟨rfl, Below.refl _ _⟩
theorem same_gn (p q : Option Addr) (w : World) (h1 : ∀ W, Below w.heap.size w W → Calls Try.prog 31 #[.pointer p] W fun e w' => e = .returned (.bool false) ∧ W = w') (h2 : ∀ W, Below w.heap.size w W → Calls Try.prog 31 #[.pointer q] W fun e w' => e = .returned (.bool true) ∧ W = w') :
    Calls Try.prog 26 #[.pointer p, .pointer q] w fun e w' => e = .returned (.bool false) ∧ Below w.heap.size w w' := by
  have c1 := hide h1
  have c2 := hide h2
  clear h1 h2
  go_enter Try.func26, Try.ntmps26
  go_wp2_with fail
  refine (unhide c1 _ (Below.refl _ _)).mono ?_
  rintro e w' ⟨rfl, rfl⟩
  go_wp2_with fail
  refine (unhide c2 _ (Below.refl _ _)).mono ?_
  rintro e w' ⟨rfl, rfl⟩
  go_wp2_with fail
  refine (unhide c1 _ (Below.refl _ _)).mono ?_
  rintro e w' ⟨rfl, rfl⟩
  go_wp2
  go_ret
  exact ⟨rfl, Below.refl _ _⟩
end
end Go.Proofs.Ytbkaopeajjechaa
