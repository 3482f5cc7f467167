/-
 Steps over blocks that are named, and what they keep: a cell that is written with what it held, a row of single cells made anew, a cell behind a pointer. Plain laws, over any program. No condition.
-/
import Derived.Test.YtiighkbehiddkaaGreatTail
namespace Go.Proofs.YtiighkbehiddkaaGreat
open Go.RowKit
set_option linter.unusedVariables false
section
variable {w w' : World} {g : Nat} {t : TypeId} {cs : List Value}
theorem Blk.at (h : Blk w g t cs) {i : Nat} {v : Value} (hv : cs[i]? = some v) : w.cell? ⟨g, i, none⟩ = some v := by rw [h.cell]; exact hv
end
section
variable {a b c : World} {gs gs' : List Nat}
theorem Kp.refl (gs : List Nat) (a : World) : Kp gs a a := ⟨rfl, rfl, rfl, Nat.le_refl _, fun _ _ _ => rfl⟩
theorem Kp.tr (h : Kp gs a b) (k : Kp gs' b c) (hg : ∀ x ∈ gs', x ∈ gs ∨ a.heap.size ≤ x) : Kp gs a c :=
 ⟨k.os.trans h.os, k.tape.trans h.tape, k.output.trans h.output, Nat.le_trans h.size k.size, fun i hi hn =>
  (k.block i (Nat.lt_of_lt_of_le hi h.size) (fun e => by rcases hg i e with h1 | h1; exact hn h1; omega)).trans (h.block i hi hn)⟩
theorem Kp.te (h : Kp gs a b) (k : Ext b c) : Kp gs a c := h.tr (gs' := []) ⟨k.os, k.tape, k.output, k.size, fun i hi _ => k.block i hi (by simp)⟩ (fun x hx => by cases hx)
theorem Kp.tg {g : Nat} (h : Kp gs a b) (k : Gr b c (some g)) (hg : g ∈ gs ∨ a.heap.size ≤ g) : Kp gs a c :=
 h.tr (gs' := [g]) ⟨k.os, k.tape, k.output, k.size, fun i hi hn => k.block i hi (fun e => hn (by cases e; simp))⟩ (fun x hx => by simp at hx; subst hx; exact hg)
theorem Kp.of_ext (k : Ext a b) : Kp gs a b := (Kp.refl gs a).te k
theorem Kp.sub (h : Kp gs a b) (hg : ∀ x ∈ gs, x ∈ gs' ∨ a.heap.size ≤ x) : Kp gs' a b := (Kp.refl gs' a).tr h hg
end
theorem Own.blk1 {w : World} {lo g n : Nat} {e : TypeId} {xs : List Value} (h : Own w lo e 1 (some ⟨g, 0, none⟩) n n xs) (hx : xs.length = n) : Blk w g e xs := by
 rcases h.2 with ⟨hv, _⟩ | ⟨g', cap, cur, hv, hb, hh, hnc, hcm, hcs, htk⟩
 ·simp at hv
 ·simp only [Value.slice.injEq, Option.some.injEq, Addr.mk.injEq] at hv
  obtain ⟨⟨rfl, _⟩, _, rfl⟩ := hv
  have hc : cur.toList = xs := by
   rw [← htk, List.take_of_length_le (by simp; omega)]
  unfold Blk
  rw [hh, ← hc]
section
variable {P : Program} {L : Env} {w : World} {d : Option Nat} {ty : TypeId} {pos : String} {aft : Array Edge} {gd : Option (Nat × Bool)}
/-- make([]T, n) of single cells. -/
theorem or_make1 {t e : TypeId} {bytes : Nat} {z : Value} (T : SliceTy P t e 1 bytes z) {x y : Operand} {k : IntKind} {n : Nat} {i : Int} (hz1 : z.cells = #[z]) (hx : ev L x = some (.int k i)) (hy : ev L y = some (.int k i)) (hi : i = n) (hb : bytes * n ≤ 140737488355328) (h63 : n ≤ maxLen) :
  OpRun P ⟨d, .makeSlice t x y, ty, pos, aft, gd⟩ L w fun v w' => ∃ g, v = .slice (some ⟨g, 0, none⟩) n n ∧ Blk w' g e (List.replicate n z) ∧ Ext w w' ∧ w.heap.size ≤ g ∧ g < w'.heap.size :=
 opRun_of fun ρ h1 _ => by
  obtain ⟨inf, hi', hz, hs, hby⟩ := T.i
  subst hi
  obtain ⟨w', hr, hown, hg⟩ := run_make_full (P := P) w w.heap.size t e inf z 1 T.u hi' hz hs k k n (by rw [hby]; omega) h63 (Nat.le_refl _)
  have hm : (madeCells z.cells (n * 1)).toList = List.replicate n z := by rw [Nat.mul_one, hz1]; exact toList_madeCells_one' _ n
  rw [hm] at hown
  have hbk : Blk w' w.heap.size e (List.replicate n z) := Own.blk1 (lo := w.heap.size) hown (by simp)
  exact ⟨_, w', by simp [execOp, h1 x _ hx, h1 y _ hy, hr], w.heap.size, rfl, hbk, hg, Nat.le_refl _, hbk.lt⟩
end
end Go.Proofs.YtiighkbehiddkaaGreat