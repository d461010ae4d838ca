/- Worlds that have grown, and in which blocks of a set alone have changed. No program in sight. -/
import Derived.Test.YtbkaopeajjechaaLk
import Derived.Laws.AppendOwn
namespace Go.Proofs.Ytbkaopeajjechaa
set_option linter.unusedVariables false
set_option linter.unusedSimpArgs false
open Go.RowKit

/-- New blocks, and changes in the blocks of S alone. -/
structure Chg (S : Nat → Prop) (w w' : World) : Prop where
  os : w'.os = w.os
  tape : w'.tape = w.tape
  output : w'.output = w.output
  size : w.heap.size ≤ w'.heap.size
  block : ∀ i, i < w.heap.size → ¬ S i → w'.heap[i]? = w.heap[i]?

section
variable {S T : Nat → Prop} {w w' A B C : World}
theorem Chg.refl (S : Nat → Prop) (w : World) : Chg S w w := ⟨rfl, rfl, rfl, Nat.le_refl _, fun _ _ _ => rfl⟩
theorem Chg.of (h : Below w.heap.size w w') : Chg S w w' := ⟨h.os, h.tape, h.output, h.size, fun i hi _ => h.block i hi⟩
theorem Chg.gr {m : Nat} (h : w.grownBy w' (some m)) (hm : S m) : Chg S w w' := ⟨h.os, h.tape, h.output, h.size, fun i hi hn => h.block i hi (fun e => hn (by injection e with e; rw [e]; exact hm))⟩
theorem Chg.trans (h : Chg S A B) (k : Chg S B C) : Chg S A C :=
  ⟨k.os.trans h.os, k.tape.trans h.tape, k.output.trans h.output, Nat.le_trans h.size k.size, fun i hi hn => (k.block i (Nat.lt_of_lt_of_le hi h.size) hn).trans (h.block i hi hn)⟩
theorem Chg.mono (h : Chg S A B) (hS : ∀ i, S i → T i) : Chg T A B := ⟨h.os, h.tape, h.output, h.size, fun i hi hn => h.block i hi (fun hs => hn (hS i hs))⟩
theorem Chg.cell (h : Chg S A B) {b o : Nat} (hb : b < A.heap.size) (hS : ¬ S b) : B.cell? ⟨b, o, none⟩ = A.cell? ⟨b, o, none⟩ := World.cell?_of_block (a := ⟨b, o, none⟩) (h.block b hb hS)
theorem Chg.frozen (h : Chg S A B) {b o : Nat} (hb : b < A.heap.size) (hS : ¬ S b) : B.frozen? ⟨b, o, none⟩ = A.frozen? ⟨b, o, none⟩ := World.frozen?_of_block (a := ⟨b, o, none⟩) (h.block b hb hS)
theorem Chg.below (h : Chg S A B) {n : Nat} (hS : ∀ i, S i → n ≤ i) (hn : n ≤ A.heap.size) : Below n A B := ⟨h.os, h.tape, h.output, h.size, fun i hi => h.block i (by omega) (fun hs => by have := hS i hs; omega)⟩
theorem Chg.then_below {n : Nat} (hb : Below n A B) (h : Chg S B C) (hS : ∀ i, S i → n ≤ i) (hn : n ≤ B.heap.size) : Below n A C := hb.trans (h.below hS hn)
theorem Chg.alloc (h : Chg S A B) (o : Obj) : Chg S A (B.alloc o) := h.trans (Chg.of ((Below.refl _ _).alloc (Nat.le_refl _) o))
theorem Chg.drew (h : Chg S A B) : Chg S A B.drew := h.trans (Chg.of ((Below.refl _ _).drew))
theorem Chg.set (h : Chg S A B) {b i : Nat} (hb : A.heap.size ≤ b ∨ S b) (v : Value) : Chg S A (B.setCell ⟨b, i, none⟩ v) :=
  ⟨h.os, h.tape, h.output, by simpa [World.setCell] using h.size, fun j hj hn => (Below.heap_setCell B ⟨b, i, none⟩ v j (fun e => by
    have e2 : j = b := e
    rcases hb with hb | hb
    · omega
    · exact hn (e2 ▸ hb))).trans (h.block j hj hn)⟩
theorem Chg.set1 {b i : Nat} (h : Chg (fun j => j = b) A B) (v : Value) : Chg (fun j => j = b) A (B.setCell ⟨b, i, none⟩ v) := Chg.set (S := fun j => j = b) h (.inr rfl) v
theorem Chg.then (h : Chg S A B) (hb : Below B.heap.size B C) : Chg S A C := h.trans (Chg.of hb)
end
end Go.Proofs.Ytbkaopeajjechaa
