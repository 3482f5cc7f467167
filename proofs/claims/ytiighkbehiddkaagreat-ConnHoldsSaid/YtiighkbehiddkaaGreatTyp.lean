/-
 Slices whose array's type is known: what a step over a block of another type leaves of them. Plain laws, over any program. No condition.
-/
import Derived.Test.YtiighkbehiddkaaGreatReq
namespace Go.Proofs.YtiighkbehiddkaaGreat
open Go.RowKit
set_option linter.unusedVariables false
/-- The slice reads as the cells xs; its array is of type e. -/
def RdT (w : World) (e : TypeId) (A : Option Addr) (n c : Nat) (xs : List Value) : Prop :=
 n ≤ c ∧ c ≤ maxLen ∧ xs.length = n ∧ (xs ≠ [] → ∃ ad cur fz, A = some ad ∧ w.heap[ad.block]? = some (Obj.cells cur e fz) ∧ ∀ j u, xs[j]? = some u → w.cell? (ad.add j) = some u)
section
variable {w w' : World} {e : TypeId} {A : Option Addr} {n c : Nat} {xs : List Value}
theorem RdT.nil (w : World) (e : TypeId) : RdT w e none 0 0 [] := ⟨Nat.le_refl _, Nat.zero_le _, rfl, fun h => absurd rfl h⟩
theorem add_blk (ad : Addr) (j : Nat) : (ad.add j).block = ad.block := by unfold Addr.add; split <;> rfl
theorem RdT.keep (h : RdT w e A n c xs) (hk : ∀ (g : Nat) cur fz, w.heap[g]? = some (Obj.cells cur e fz) → w'.heap[g]? = w.heap[g]?) : RdT w' e A n c xs :=
 ⟨h.1, h.2.1, h.2.2.1, fun hn => by
  obtain ⟨ad, cur, fz, hA, hb, hc⟩ := h.2.2.2 hn
  have hs := hk _ _ _ hb
  refine ⟨ad, cur, fz, hA, hs.trans hb, fun j u hu => ?_⟩
  rw [← hc j u hu]
  exact World.cell?_of_block (by rw [add_blk]; exact hs)⟩
theorem RdT.rd (h : RdT w e A n c xs) : Rd w 0 w.heap.size 1 A n c xs :=
 ⟨h.1, h.2.1, by rw [h.2.2.1, Nat.mul_one], fun hn => by
  obtain ⟨ad, cur, fz, hA, hb, hc⟩ := h.2.2.2 hn
  exact ⟨ad, hA, Nat.zero_le _, (Array.getElem?_eq_some_iff.1 hb).1, hc⟩⟩
theorem RdT.ext (h : RdT w e A n c xs) (hg : Ext w w') : RdT w' e A n c xs := h.keep fun g cur fz hb => hg.block g (Array.getElem?_eq_some_iff.1 hb).1 (by simp)
theorem RdT.gr {g : Nat} {t : TypeId} {cs : List Value} (h : RdT w e A n c xs) (hg : Gr w w' (some g)) (hb : Blk w g t cs) (ht : e ≠ t) : RdT w' e A n c xs :=
 h.keep fun g' cur fz hc => hg.block g' (Array.getElem?_eq_some_iff.1 hc).1 (fun e2 => by
  cases e2
  have := hb.symm.trans hc
  simp only [Option.some.injEq, Obj.cells.injEq] at this
  exact ht this.2.1.symm)
theorem RdT.own {lo : Nat} (h : Own w lo e 1 A n c xs) : RdT w e A n c xs := by
 have hr := Own.rd h
 refine ⟨hr.1, hr.2.1, by have := hr.2.2.1; omega, fun hn => ?_⟩
 obtain ⟨ad, hA, _, _, hc⟩ := hr.2.2.2 hn
 rcases h.2 with ⟨hv, h0⟩ | ⟨g, cap, cur, hv, _, hh, _⟩
 ·subst h0; have := hr.2.2.1; simp at this; exact absurd this hn
 ·simp only [Value.slice.injEq] at hv
  obtain ⟨h1, _, _⟩ := hv
  subst h1; cases hA
  exact ⟨_, cur, (0, 0), rfl, hh, hc⟩
end
section
variable {P : Program} {L : Env} {w : World} {d : Option Nat} {ty : TypeId} {pos : String} {aft : Array Edge} {gd : Option (Nat × Bool)}
end
end Go.Proofs.YtiighkbehiddkaaGreat