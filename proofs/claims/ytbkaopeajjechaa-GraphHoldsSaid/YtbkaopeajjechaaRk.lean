/- As Rs, where some old blocks may change (a row that is appended to). No program in sight. -/
import Derived.Test.YtbkaopeajjechaaRs
import Derived.Test.YtbkaopeajjechaaCh
import Derived.Laws.AppendOwn
namespace Go.Proofs.Ytbkaopeajjechaa
set_option linter.unusedVariables false
set_option linter.unusedSimpArgs false
open Go.RowKit

/-- The worlds that differ from w in new blocks and in blocks of Z alone. -/
structure Chd (Z : Nat → Prop) (w : World) where
  val : World
  ok : Chg Z w val

instance (Z : Nat → Prop) (w : World) : Nonempty (Chd Z w) := ⟨⟨w, Chg.refl _ _⟩⟩

theorem Chd.iff {Z : Nat → Prop} {w U : World} : (∃ s : Chd Z w, U = s.val) ↔ Chg Z w U := ⟨fun ⟨s, hs⟩ => hs ▸ s.ok, fun h => ⟨⟨U, h⟩, rfl⟩⟩

theorem Chd.cell {Z : Nat → Prop} {w : World} {b o : Nat} {v : Value} (hp : b < w.heap.size) (hz : ¬ Z b) (h : w.cell? ⟨b, o, none⟩ = some v) (s : Chd Z w) : s.val.cell? ⟨b, o, none⟩ = some v := (s.ok.cell hp hz).trans h

theorem wp_region_side_chd (κ : List Nat) (k : Nat) {P : Program} (Z : Nat → Prop) (w0 : World) {id : Nat} {Q : Exit → Act → World → Prop} {a : Act} {w : World} {L : List Oper} (hm : P.follows .mixedOrders = true) (hB : sideB L κ k = true) (hC : Chg Z w0 w.drew)
    (h : wpQuiet P (diesOps L (kblk κ)).toArray (fun U => ∃ s : Chd Z w0, U = s.val) (fun a' => sideWp P (fun U => Chg Z w0 U) a' (fun ps U => wpList P L.toArray Q (L.drop k) (applyP ps a') U) ((sideIdx κ k).filterMap fun i => L[i]?) [] w.drew) (diesOps L (kblk κ)) a) : (Code.region id L.toArray true).wp P Q a w := by
  refine wp_region_side (C := fun U => ∃ s : Chd Z w0, U = s.val) κ k hm hB (Chd.iff.2 hC) ?_
  have e : (fun U => ∃ s : Chd Z w0, U = s.val) = (fun U => Chg Z w0 U) := funext fun U => propext Chd.iff
  rw [e] at h ⊢
  exact h
/-- An append to a row that one owns, as an operation of the chain. -/
theorem wpV_append {P : Program} {w : World} {o : Oper} {a : Act} {K : Value → World → Prop} (s x : Operand) (t : TypeId)
    (ho : o.op = .call { callee := .builtin .append, args := #[s, x], argTypes := #[t, t] })
    (base : Nat) (e : TypeId) (i : TypeInfo) (z : Value) (size bytes : Nat) (ht : P.underlying t = some (.slice e)) (hi : P.info? e = some i) (hz : i.zero = some z)
    (hsize : i.size = size) (hby : i.bytes = bytes) (hzs : z.cells.size = size) (hsz : 0 < size)
    (v : Value) (n : Nat) (xs : List Value) (hs : a.eval s = v) (hown : w.ownsRow base e size v n xs)
    (ad : Addr) (m c : Nat) (news : List Value) (hx : a.eval x = .slice (some ad) m c) (hl : news.length = m * size) (hnews : ∀ j u, news[j]? = some u → w.cell? (ad.add j) = some u) (h1 : ∀ u ∈ news, u.oneCell' = true)
    (h63 : n + m ≤ maxLen) (hbytes : (n + m) * bytes ≤ 140737488355328) (hbase : base ≤ w.heap.size)
    (h : ∀ v' w', w'.ownsRow base e size v' (n + m) (xs ++ news) → w.grownBy w' v.ownBlock → K v' w') : Oper.wpV P o a w K := by
  obtain ⟨v', w', hr, h2, h3, h4⟩ := run_append_own (P := P) (w := w) base t o.type e i z size bytes ht hi hz hsize hby hzs hsz v n xs hown ad m c news hl hnews h1 h63 hbytes hbase
  unfold Oper.wpV execOp
  simp only [ho, resolve, invoke, builtin, Sem.run_bind, Sem.run_pure, Result.andThen_ok, List.map_toArray, List.map_cons, List.map_nil, hs, hx, hr]
  exact h v' w' h2 h3
end Go.Proofs.Ytbkaopeajjechaa
