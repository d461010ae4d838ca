/- GraphRefuses, plainly: what can be reached behind an operation could be reached ahead of it, or is new. No walk in sight. -/
import Derived.Test.YtbkaopeajjechaaGuC
namespace Go.Proofs.Ytbkaopeajjechaa
set_option linter.unusedVariables false
set_option linter.unusedSimpArgs false
open Go.RowKit

section
variable {T : Nat} {len : Nat} {S : Nat → ByteArray} {G : Gr} {D : Nat → Prop}

theorem reach_least {P : Nat → Prop} (hr : ∀ t s, t < T → s < 6 → G.root t s ≠ 0 → P (G.root t s)) (hh : ∀ x, P x → ∀ f, f < (S (G.sh x)).size → G.held S x f ≠ 0 → P (G.held S x f)) : ∀ x, x ∈ G.reach T S → P x := by
  have h0 : ∀ i, i ≤ T → ∀ x, x ∈ G.met0 i → P x := by
    intro i
    induction i with
    | zero => intro _ x hx; cases hx
    | succ i ih =>
      intro hi x hx
      have hx : x ∈ meetL (G.met0 i) (G.six i) := hx
      rcases (mem_meetL _ _ _).1 hx with h | ⟨h, hne⟩
      · exact ih (by omega) x h
      · unfold Gr.six at h
        obtain ⟨s, hs, rfl⟩ := List.mem_map.1 h
        exact hr i s (by omega) (List.mem_range.1 hs) hne
  have h1 : ∀ i, ∀ x, x ∈ G.met T S i → P x := by
    intro i
    induction i with
    | zero => exact h0 T (Nat.le_refl _)
    | succ i ih =>
      intro x hx
      have hx : x ∈ G.step S (G.met T S i) i := hx
      unfold Gr.step at hx
      split at hx
      · exact ih x hx
      · rename_i y hy
        rcases (mem_meetL _ _ _).1 hx with h | ⟨h, hne⟩
        · exact ih x h
        · unfold Gr.kids at h
          obtain ⟨f, hf, rfl⟩ := List.mem_map.1 h
          exact hh y (ih y (List.mem_of_getElem? hy)) f (List.mem_range.1 hf) hne
  exact h1 G.n

theorem sub_slot (hI : G.In D T S) {t s v : Nat} (hv : v = 0 ∨ v ∈ G.reach T S) : ∀ x, x ∈ (G.slot t s v).reach T S → x ∈ G.reach T S := by
  refine reach_least (fun a b ha hb hne => ?_) (fun x hx f hf hne => reach_held hI hx hf hne)
  have hne : (if a = t ∧ b = s then v else G.root a b) ≠ 0 := hne
  show (if a = t ∧ b = s then v else G.root a b) ∈ _
  by_cases e : a = t ∧ b = s
  · rw [if_pos e] at hne ⊢
    exact hv.resolve_left hne
  · rw [if_neg e] at hne ⊢
    exact reach_root ha hb hne

theorem sub_field (hI : G.In D T S) {o f : Nat} {v : Int} (hv : kd (S (G.sh o)) f = 0 → v.toNat = 0 ∨ v.toNat ∈ G.reach T S) : ∀ x, x ∈ (G.field o f v).reach T S → x ∈ G.reach T S := by
  refine reach_least (fun a b ha hb hne => reach_root ha hb hne) (fun x hx g hg hne => ?_)
  rw [Gr.held_field] at hne ⊢
  by_cases e : x = o ∧ g = f
  · rw [if_pos e] at hne ⊢
    by_cases hk : kd (S (G.sh o)) f = 0
    · rw [if_pos hk] at hne ⊢
      exact (hv hk).resolve_left hne
    · rw [if_neg hk] at hne
      exact absurd rfl hne
  · rw [if_neg e] at hne ⊢
    exact reach_held hI hx hg hne

theorem sub_more (hI : G.In D T S) {t a s : Nat} : ∀ x, x ∈ ((G.more s).slot t a (G.n + 1)).reach T S → x ∈ G.reach T S ∨ x = G.n + 1 := by
  have hnum := fun x (hx : x ∈ G.reach T S) => hI.num x ((reach_ok hI).2 x hx).2
  refine reach_least (fun b c hb hc hne => ?_) (fun x hx f hf hne => ?_)
  · have hne : (if b = t ∧ c = a then G.n + 1 else G.root b c) ≠ 0 := hne
    show (if b = t ∧ c = a then G.n + 1 else G.root b c) ∈ _ ∨ (if b = t ∧ c = a then G.n + 1 else G.root b c) = _
    by_cases e : b = t ∧ c = a
    · rw [if_pos e]
      exact .inr rfl
    · rw [if_neg e] at hne ⊢
      exact .inl (reach_root hb hc hne)
  · by_cases e : x = G.n + 1
    · exfalso
      apply hne
      show (if kd _ f = 0 then ((if x = G.n + 1 then (0 : Int) else G.fl x f)).toNat else 0) = 0
      rw [if_pos e]
      split <;> rfl
    · have hxr := hx.resolve_right e
      have esh : ((G.more s).slot t a (G.n + 1)).sh x = G.sh x := if_neg e
      have ehd : ((G.more s).slot t a (G.n + 1)).held S x f = G.held S x f := by
        show (if kd (S ((if x = G.n + 1 then s else G.sh x))) f = 0 then ((if x = G.n + 1 then (0 : Int) else G.fl x f)).toNat else 0) = _
        rw [if_neg e, if_neg e]
        rfl
      rw [esh] at hf
      rw [ehd] at hne ⊢
      exact .inl (reach_held hI hxr hf hne)

/-- What can be reached behind an operation. -/
theorem reach_go (hI : G.In D T S) (hok : G.Ok len S T) (t : Int) (z : Nat → Int) : ∀ x, x ∈ (G.go len S T t z).reach T S → x ∈ G.reach T S ∨ (x = G.n + 1 ∧ (G.go len S T t z).n = G.n + 1) := by
  by_cases ht : 0 ≤ t ∧ t < (T : Int)
  · by_cases he : G.err len S t.toNat z = 0
    · have hg : G.go len S T t z = G.did t.toNat z := by
        unfold Gr.go Gr.next
        rw [if_pos ht, if_pos he]
      rw [hg]
      have h0 : opE len S z = 0 := by
        apply Classical.byContradiction
        intro hc
        unfold Gr.err at he
        rw [if_pos hc] at he
        exact hc he
      obtain ⟨hk, ⟨⟨s1, s2⟩, ⟨s3, s4⟩, s5, s6⟩, -⟩ := opE_zero h0
      have htT : t.toNat < T := by omega
      generalize t.toNat = u at *
      have rin : ∀ i : Nat, i < 6 → G.root u i = 0 ∨ G.root u i ∈ G.reach T S := fun i hi => by
        by_cases e : G.root u i = 0
        · exact .inl e
        · exact .inr (reach_root htT hi e)
      by_cases k1 : z 0 = 1
      · have e : G.did u z = (G.more (z 5).toNat).slot u (z 1).toNat (G.n + 1) := by unfold Gr.did; rw [if_pos k1]
        rw [e]
        intro x hx
        rcases sub_more hI x hx with h | h
        · exact .inl h
        · exact .inr ⟨h, rfl⟩
      by_cases k2 : z 0 = 2
      · have e : G.did u z = G.slot u (z 2).toNat (G.got u z).toNat := by unfold Gr.did; rw [if_neg k1, if_pos k2]
        rw [e]
        intro x hx
        refine .inl (sub_slot hI ?_ x hx)
        obtain ⟨a, f, F⟩ := Found.of h0 (by omega) (by omega) he
        have hkd : kd (S (G.sh (G.root u a))) f = 0 := by rw [F.hk, k2]; rfl
        have hgot : (G.got u z).toNat = G.held S (G.root u a) f := by
          unfold Gr.got Gr.obj Gr.held
          rw [if_pos hkd, F.ha, F.hf, Int.toNat_natCast, Int.toNat_natCast]
        rw [hgot]
        by_cases e0 : G.held S (G.root u a) f = 0
        · exact .inl e0
        · exact .inr (reach_held hI (reach_root htT F.a6 F.ho) F.hfl e0)
      by_cases k3 : z 0 = 3
      · have e : G.did u z = G.field (G.obj u z) (z 4).toNat (G.root u (z 2).toNat) := by unfold Gr.did; rw [if_neg k1, if_neg k2, if_pos k3]
        rw [e]
        intro x hx
        refine .inl (sub_field hI (fun _ => ?_) x hx)
        rw [Int.toNat_natCast]
        exact rin _ (by omega)
      by_cases k4 : z 0 = 4
      · have e : G.did u z = if G.got u z = G.root u (z 2).toNat then G.field (G.obj u z) (z 4).toNat (G.root u (z 3).toNat) else G := by unfold Gr.did; rw [if_neg k1, if_neg k2, if_neg k3, if_pos k4]
        rw [e]
        split
        · intro x hx
          refine .inl (sub_field hI (fun _ => ?_) x hx)
          rw [Int.toNat_natCast]
          exact rin _ (by omega)
        · exact fun x hx => .inl hx
      by_cases k6 : z 0 = 6
      · have e : G.did u z = G.field (G.obj u z) (z 4).toNat (z 6) := by unfold Gr.did; rw [if_neg k1, if_neg k2, if_neg k3, if_neg k4, if_pos k6]
        rw [e]
        intro x hx
        obtain ⟨a, f, F⟩ := Found.of h0 (by omega) (by omega) he
        refine .inl (sub_field hI (fun hc => ?_) x hx)
        have hkd := F.hk
        rw [k6] at hkd
        unfold Gr.obj at hc
        rw [F.ha, F.hf, Int.toNat_natCast, Int.toNat_natCast, hkd] at hc
        exact absurd hc (by decide)
      by_cases k7 : z 0 = 7
      · have e : G.did u z = if G.got u z = z 6 then G.field (G.obj u z) (z 4).toNat (z 7) else G := by unfold Gr.did; rw [if_neg k1, if_neg k2, if_neg k3, if_neg k4, if_neg k6, if_pos k7]
        rw [e]
        split
        · intro x hx
          obtain ⟨a, f, F⟩ := Found.of h0 (by omega) (by omega) he
          refine .inl (sub_field hI (fun hc => ?_) x hx)
          have hkd := F.hk
          rw [k7] at hkd
          unfold Gr.obj at hc
          rw [F.ha, F.hf, Int.toNat_natCast, Int.toNat_natCast, hkd] at hc
          exact absurd hc (by decide)
        · exact fun x hx => .inl hx
      by_cases k9 : z 0 = 9
      · have e : G.did u z = G.slot u (z 1).toNat (G.root u (z 2).toNat) := by unfold Gr.did; rw [if_neg k1, if_neg k2, if_neg k3, if_neg k4, if_neg k6, if_neg k7, if_pos k9]
        rw [e]
        intro x hx
        exact .inl (sub_slot hI (rin _ (by omega)) x hx)
      by_cases k10 : z 0 = 10
      · have e : G.did u z = G.slot u (z 1).toNat 0 := by unfold Gr.did; rw [if_neg k1, if_neg k2, if_neg k3, if_neg k4, if_neg k6, if_neg k7, if_neg k9, if_pos k10]
        rw [e]
        intro x hx
        exact .inl (sub_slot hI (.inl rfl) x hx)
      have e : G.did u z = G := by unfold Gr.did; rw [if_neg k1, if_neg k2, if_neg k3, if_neg k4, if_neg k6, if_neg k7, if_neg k9, if_neg k10]
      rw [e]
      exact fun x hx => .inl hx
    · have hg : G.go len S T t z = G := by
        unfold Gr.go Gr.next
        rw [if_pos ht, if_neg he]
      rw [hg]
      exact fun x hx => .inl hx
  · have hg : G.go len S T t z = G := by
      unfold Gr.go
      rw [if_neg ht]
    rw [hg]
    exact fun x hx => .inl hx

theorem len_sub : ∀ (l m : List Nat), l.Nodup → (∀ x, x ∈ l → x ∈ m) → l.length ≤ m.length
  | [], _, _, _ => Nat.zero_le _
  | x :: l, m, hn, hs => by
    have hx := hs x List.mem_cons_self
    have hn' := List.nodup_cons.1 hn
    have := len_sub l (m.erase x) hn'.2 (fun y hy => (List.mem_erase_of_ne (fun e => hn'.1 (by rw [← e]; exact hy))).2 (hs y (List.mem_cons_of_mem _ hy)))
    rw [List.length_erase_of_mem hx] at this
    have := List.length_pos_of_mem hx
    simp
    omega

/-- So many more objects at most as were made. -/
theorem nodes_go {D' : Nat → Prop} (hI : G.In D T S) (hok : G.Ok len S T) (t : Int) (z : Nat → Int) (hI' : (G.go len S T t z).In D' T S) : ((G.go len S T t z).reach T S).length ≤ (G.reach T S).length + ((G.go len S T t z).n - G.n) := by
  have hnd := (reach_ok hI').1
  have hsub := reach_go hI hok t z
  have hn := Gr.go_n (len := len) (S := S) (T := T) G t z
  by_cases e : (G.go len S T t z).n = G.n + 1
  · have := len_sub _ (G.reach T S ++ [G.n + 1]) hnd (fun x hx => by
      rcases hsub x hx with h | ⟨h, _⟩
      · exact List.mem_append_left _ h
      · exact List.mem_append_right _ (by simp [h]))
    simp at this
    omega
  · have := len_sub _ (G.reach T S) hnd (fun x hx => by
      rcases hsub x hx with h | ⟨_, h⟩
      · exact h
      · exact absurd h e)
    omega

/-- What is refused changes nothing, and tells nothing. -/
theorem refused (t : Int) (z : Nat → Int) (h : aF T t ≠ 0 ∨ G.aE len S T t z ≠ 0) : G.go len S T t z = G ∧ G.aI len S T t z = false ∧ G.aV len S T t z = 0 := by
  unfold Gr.go Gr.aI Gr.aV Gr.next
  by_cases ht : 0 ≤ t ∧ t < (T : Int)
  · have he : G.err len S t.toNat z ≠ 0 := by
      rcases h with h | h
      · unfold aF at h
        rw [if_pos ht] at h
        exact absurd rfl h
      · unfold Gr.aE at h
        rwa [if_pos ht] at h
    rw [if_pos ht, if_pos ht, if_pos ht, if_neg he, if_neg he, if_neg he]
    exact ⟨rfl, rfl, rfl⟩
  · rw [if_neg ht, if_neg ht, if_neg ht]
    exact ⟨rfl, rfl, rfl⟩
end
end Go.Proofs.Ytbkaopeajjechaa
