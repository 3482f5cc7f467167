/-
  Regions that draw their order and append to rows of their own: what lay below a bound is kept. Plain laws, over any program. No condition.
-/
import Derived.Test.YtfniipfdpoeapaaDraw
namespace Go.Proofs.Ytfniipfdpoeapaa
open Go.RowKit

/-- Below B nothing turns, once the heap has come to B. -/
def Bel (B : Nat) (a b : World) : Prop := B ≤ a.heap.size → Below B a b
theorem bel_ext {B : Nat} (a b : World) (h : Ext a b) : Bel B a b := fun hB => h.below.mono hB
theorem bel_tr {B : Nat} (a b c : World) (h : Bel B a b) (k : Bel B b c) : Bel B a c := fun hB => (h hB).trans (k (Nat.le_trans hB (h hB).size))
theorem bel_out {w w' : World} (h : Bel w.heap.size w w') : Ext w w' :=
  have b := h (Nat.le_refl _)
  ⟨b.os, b.tape, b.output, b.size, fun k hk _ => b.block k hk⟩
theorem bel_gr {B : Nat} {a b : World} {row : Option Nat} (hg : Gr a b row) (hr : ∀ g, row = some g → B ≤ g) : Bel B a b := fun hB =>
  ⟨hg.os, hg.tape, hg.output, hg.size, fun k hk => hg.block k (by omega) fun e => by have := hr k e.symm; omega⟩

end Go.Proofs.Ytfniipfdpoeapaa
