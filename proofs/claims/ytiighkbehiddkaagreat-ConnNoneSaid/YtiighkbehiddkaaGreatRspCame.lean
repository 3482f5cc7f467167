/-
 A response that comes as an argument, opened, with the sizes that the form keeps. No condition.
-/
import Derived.Test.YtiighkbehiddkaaGreatRows
import Derived.Test.YtiighkbehiddkaaGreatLawL
import Derived.Test.YtiighkbehiddkaaGreatConn
namespace Go.Proofs.YtiighkbehiddkaaGreat
open Go.ChangeShapes Go.WideShapes Go.ChangeAt Go.RowKit Go.Deep
set_option maxRecDepth 4000
section
variable {H : Type} {enc : TypeId × Value → H} {P : Program} {W : World}
theorem crw_rows {α : Type} {t e : TypeId} {size : Nat} {cs : List Value} (f : α → List Value) (Q : α → Prop) (ht : P.underlying t = some (.slice e)) (hc : P.cellsOf e = size) (hs : 0 < size)
  (hel : ∀ cs : List Value, CRw enc P W e cs → ∃ a, cs = f a ∧ Q a) (h : CRw enc P W t cs) :
  ∃ A c xs, cs = [.slice A (List.length xs) c] ∧ RdR W 0 W.heap.size size f A c xs ∧ ∀ x ∈ xs, Q x := by
 obtain ⟨fuel, x, h, hw⟩ := h
 rcases open_slice ht h with ⟨hcs, _⟩ | ⟨a, len, cap, m, n, D, Pl, hcs, _, hl, hm, hmm, rfl, hx⟩
 ·exact ⟨none, 0, [], hcs, Rd.nil _ _ _ _ _ _ (Nat.zero_le _), by simp⟩
 ·have hle : len ≤ m := by rw [hmm]; split <;> omega
  obtain ⟨xs, hxl, hxs⟩ := list_of (p := fun i (y : α) => W.cells? 0 (a.add (i * P.cellsOf e)) (P.cellsOf e) = some (f y) ∧ Q y) len (fun i hi => by
   obtain ⟨cs', h1, h2⟩ := hx i (by omega)
   obtain ⟨y, e1, hy⟩ := hel cs' ⟨n, _, h2, fun k hk => hw k (by
    have h3 : D i ∈ (List.range len).map D := List.mem_map.2 ⟨i, List.mem_range.2 hi, rfl⟩
    have := weightsAll_mem h3 hk
    simp only [DataW.weights, ht, List.mem_cons, List.mem_append]
    exact .inr (.inl this))⟩
   exact ⟨y, e1 ▸ h1, hy⟩)
  rw [hc] at hxs
  have hfl : ∀ x ∈ xs, (f x).length = size := fun x hx => by
   obtain ⟨i, hi⟩ := List.getElem?_of_mem hx
   exact (World.cells?_some (hxs i x hi).1).2.1
  refine ⟨some a, cap, xs, by rw [hxl]; exact hcs, ?_, fun x hx => by
   obtain ⟨i, hi⟩ := List.getElem?_of_mem hx
   exact (hxs i x hi).2⟩
  have hcell : ∀ i x, xs[i]? = some x → ∀ j u, (f x)[j]? = some u → W.cell? ((a.add (i * size)).add j) = some u := fun i x hi j u hu => by
   have hj := (List.getElem?_eq_some_iff.1 hu).1
   rw [hfl x (List.mem_of_getElem? hi)] at hj
   rw [(World.cells?_some (hxs i x hi).1).2.2 j hj]
   exact hu
  refine ⟨by rw [hxl]; exact hl, hm, ?_, fun hne => ⟨a, rfl, Nat.zero_le _, ?_, fun j u hu => flat_cells hfl hcell hu⟩⟩
  ·have : ∀ ys : List α, (∀ x ∈ ys, (f x).length = size) → (ys.flatMap f).length = ys.length * size := by
    intro ys
    induction ys with
    | nil => simp
    | cons y r ih => intro h; rw [List.flatMap_cons, List.length_append, ih (fun x hx => h x (List.mem_cons_of_mem _ hx)), h y (List.mem_cons_self ..), List.length_cons, Nat.succ_mul, Nat.add_comm]
   exact this xs hfl
  ·have h0 : ∃ y, xs[0]? = some y := by
    cases xs with
    | nil => exact absurd rfl hne
    | cons y _ => exact ⟨y, rfl⟩
   obtain ⟨y, hy⟩ := h0
   have hly := hfl y (List.mem_of_getElem? hy)
   have := World.block_lt_of_cell? W _ (hcell 0 y hy 0 ((f y)[0]'(by omega)) (List.getElem?_eq_getElem (by omega)))
   rw [Nat.zero_mul, addr_add_zero, addr_add_zero] at this
   exact this
end
theorem rc_r : Tryz.prog.cellsOf 43 = 6 := by kernel_rfl
theorem rc_i : Tryz.prog.cellsOf 80 = 4 := by kernel_rfl
theorem rc_op : Tryz.prog.cellsOf 34 = 1 := by kernel_rfl
theorem rc_er : Tryz.prog.cellsOf 29 = 1 := by kernel_rfl
theorem rc_is : Tryz.prog.cellsOf 40 = 1 := by kernel_rfl
theorem rc_n : Tryz.prog.cellsOf 36 = 1 := by kernel_rfl
theorem rc_in : Tryz.prog.cellsOf 3 = 1 := by kernel_rfl
theorem rc_ns : Tryz.prog.cellsOf 41 = 1 := by kernel_rfl
theorem rc_m : Tryz.prog.cellsOf 78 = 1 := by kernel_rfl
theorem rc_b : Tryz.prog.cellsOf 32 = 1 := by kernel_rfl
theorem rc_t : Tryz.prog.cellsOf 37 = 1 := by kernel_rfl
theorem rc_8 : Tryz.prog.cellsOf 5 = 1 := by kernel_rfl
theorem rb_8 : Tryz.prog.bytesOf 5 = 1 := by kernel_rfl
/-- What is known of an item that comes. -/
def ItOk (W : World) (x : IT) : Prop := RdB W 0 W.heap.size x.2.1 x.2.2 x.1.value ∧ x.1.value.length ≤ 140737488355328 ∧ x.1.ver < 18446744073709551616 ∧ x.1.dead < 18446744073709551616
theorem crw_item {H : Type} {enc : TypeId × Value → H} {W : World} {cs : List Value} (h : CRw enc Tryz.prog W 80 cs) : ∃ x : IT, cs = itc x ∧ ItOk W x := by
 obtain ⟨hl, hf⟩ := crw_struct Tryz.underlying80 h
 rw [rc_i] at hl
 match cs, hl with
 | [c0, c1, c2, c3], _ =>
  have k0 : CRw enc Tryz.prog W 78 (([c0, c1, c2, c3].drop 0).take (Tryz.prog.cellsOf 78)) := hf 0 _ rfl
  have k1 : CRw enc Tryz.prog W 32 (([c0, c1, c2, c3].drop 1).take (Tryz.prog.cellsOf 32)) := hf 1 _ rfl
  have k2 : CRw enc Tryz.prog W 36 (([c0, c1, c2, c3].drop 2).take (Tryz.prog.cellsOf 36)) := hf 2 _ rfl
  have k3 : CRw enc Tryz.prog W 37 (([c0, c1, c2, c3].drop 3).take (Tryz.prog.cellsOf 37)) := hf 3 _ rfl
  rw [rc_m] at k0
  rw [rc_b] at k1
  rw [rc_n] at k2
  rw [rc_t] at k3
  obtain ⟨m, e0, _, _⟩ := cr_i64 Tryz.underlying78 k0.cr
  obtain ⟨V, cv, value, e1, hV, h1⟩ := crw_bytes Tryz.underlying32 Tryz.underlying5 rc_8 rb_8 k1
  obtain ⟨ver, e2, h2⟩ := cr_u64 Tryz.underlying36 k2.cr
  obtain ⟨dead, e3, h3⟩ := cr_u64 Tryz.underlying37 k3.cr
  cases e0; cases e1; cases e2; cases e3
  exact ⟨(⟨m, value, ver, dead⟩, V, cv), rfl, hV, Nat.le_trans h1 (by decide), h2, h3⟩
theorem came_rsp {H : Type} {enc : TypeId × Value → H} {W : World} {v : Value} {d : DataW H} (h : Came enc Tryz.prog W 43 v d) :
  ∃ (r : Rsp) (xs : List IT) (X : Option Addr) (cx : Nat) (N : Option Addr) (cn : Nat), v = .agg (rspc r X cx N cn).toArray ∧ vals xs = r.items ∧ RdI W 0 W.heap.size X cx xs ∧ RdN W 0 W.heap.size N cn r.nums ∧ LawOk r ∧ -9223372036854775808 ≤ r.op ∧ r.op ≤ 9223372036854775807 ∧ -9223372036854775808 ≤ r.count := by
 obtain ⟨cs, rfl, hc⟩ := camew_struct Tryz.underlying43 h
 obtain ⟨hl, hf⟩ := crw_struct Tryz.underlying43 hc
 rw [rc_r] at hl
 match cs, hl with
 | [c0, c1, c2, c3, c4, c5], _ =>
  have k0 : CRw enc Tryz.prog W 34 (([c0, c1, c2, c3, c4, c5].drop 0).take (Tryz.prog.cellsOf 34)) := hf 0 _ rfl
  have k1 : CRw enc Tryz.prog W 29 (([c0, c1, c2, c3, c4, c5].drop 1).take (Tryz.prog.cellsOf 29)) := hf 1 _ rfl
  have k2 : CRw enc Tryz.prog W 40 (([c0, c1, c2, c3, c4, c5].drop 2).take (Tryz.prog.cellsOf 40)) := hf 2 _ rfl
  have k3 : CRw enc Tryz.prog W 36 (([c0, c1, c2, c3, c4, c5].drop 3).take (Tryz.prog.cellsOf 36)) := hf 3 _ rfl
  have k4 : CRw enc Tryz.prog W 3 (([c0, c1, c2, c3, c4, c5].drop 4).take (Tryz.prog.cellsOf 3)) := hf 4 _ rfl
  have k5 : CRw enc Tryz.prog W 41 (([c0, c1, c2, c3, c4, c5].drop 5).take (Tryz.prog.cellsOf 41)) := hf 5 _ rfl
  rw [rc_op] at k0
  rw [rc_er] at k1
  rw [rc_is] at k2
  rw [rc_n] at k3
  rw [rc_in] at k4
  rw [rc_ns] at k5
  obtain ⟨op, e0, hop1, hop2⟩ := cr_i64 Tryz.underlying34 k0.cr
  obtain ⟨err, e1, _, _⟩ := cr_i64 Tryz.underlying29 k1.cr
  obtain ⟨X, cx, xs, e2, hX, h2⟩ := crw_rows itc (ItOk W) Tryz.underlying40 rc_i (by decide) (fun cs h => crw_item h) k2
  obtain ⟨ver, e3, h3⟩ := cr_u64 Tryz.underlying36 k3.cr
  obtain ⟨count, e4, hc1, hc2⟩ := cr_i64 Tryz.underlying3 k4.cr
  obtain ⟨N, cn, ns, e5, hN, h5⟩ := crw_rows nuc (fun n => n < 18446744073709551616) Tryz.underlying41 rc_n (by decide) (fun cs h => cr_u64 Tryz.underlying36 h.cr) k5
  have hvl : (vals xs).length = xs.length := List.length_map ..
  cases e0; cases e1; cases e2; cases e3; cases e4; cases e5
  refine ⟨⟨op, err, vals xs, ver, count, ns⟩, xs, X, cx, N, cn, ?_, rfl, ⟨hX, fun x hx => (h2 x hx).1⟩, hN, ⟨⟨h3, ?_, h5, hc2⟩, ?_⟩, hop1, hop2, hc1⟩
  ·unfold rspc; rw [hvl]
  ·intro x hx
   obtain ⟨y, hy, rfl⟩ := List.mem_map.1 hx
   exact (h2 y hy).2.2
  ·intro x hx
   obtain ⟨y, hy, rfl⟩ := List.mem_map.1 hx
   exact (h2 y hy).2.1
end Go.Proofs.YtiighkbehiddkaaGreat