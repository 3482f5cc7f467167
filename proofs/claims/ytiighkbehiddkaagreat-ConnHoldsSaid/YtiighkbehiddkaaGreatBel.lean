/-
 Regions that draw their order and write: to rows of their own (append), and to blocks that are named. What else there was is kept. Plain laws, over any program. No condition.
-/
import Derived.Test.YtiighkbehiddkaaGreatDraw
namespace Go.Proofs.YtiighkbehiddkaaGreat
open Go.RowKit
/-- A row of one's own and a block of another type are two. -/
theorem own_blk_ne {w : World} {lo : Nat} {e t : TypeId} {size n c g : Nat} {A : Option Addr} {xs cs : List Value} (h : Own w lo e size A n c xs) (hb : Blk w g t cs) (ht : e ≠ t) : blk A ≠ some g := by
 intro hA
 rcases h.2 with ⟨hv, _⟩ | ⟨g', cap, cur, hv, _, hh, _⟩
 ·simp only [Value.slice.injEq] at hv
  obtain ⟨rfl, _⟩ := hv
  cases hA
 ·simp only [Value.slice.injEq] at hv
  obtain ⟨rfl, _, _⟩ := hv
  cases hA
  have := hh.symm.trans hb
  simp only [Option.some.injEq, Obj.cells.injEq] at this
  exact ht this.2.1
theorem own_own_ne {w : World} {lo lo2 : Nat} {e e2 : TypeId} {size n c size2 m d : Nat} {A B : Option Addr} {xs ys : List Value} (h : Own w lo e size A n c xs) (k : Own w lo2 e2 size2 B m d ys) (ht : e2 ≠ e) : blk A = none ∨ blk A ≠ blk B := by
 rcases h.2 with ⟨hv, _⟩ | ⟨g', cap, cur, hv, _, hh, _⟩
 ·simp only [Value.slice.injEq] at hv
  obtain ⟨rfl, _⟩ := hv
  exact .inl rfl
 ·simp only [Value.slice.injEq] at hv
  obtain ⟨rfl, _, _⟩ := hv
  exact .inr fun hA => own_blk_ne k (g := g') (t := e) (cs := cur.toList) (by simpa [Blk] using hh) ht hA.symm
/-- The cells at an address. -/
def isCells (cs : List Value) : Pred := fun v w => ∃ p, v = .pointer (some p) ∧ ∀ j u, cs[j]? = some u → w.cell? (p.add j) = some u
theorem stb_isCells (cs : List Value) : Stb (isCells cs) := fun _ _ _ ⟨p, hv, hc⟩ he => ⟨p, hv, fun j u hu => ext_cell he (hc j u hu)⟩
/-- Below B nothing turns, once the heap has come to B. -/
def Bel (B : Nat) (a b : World) : Prop := B ≤ a.heap.size → Below B a b
theorem bel_ext {B : Nat} (a b : World) (h : Ext a b) : Bel B a b := fun hB => h.below.mono hB
theorem bel_tr {B : Nat} (a b c : World) (h : Bel B a b) (k : Bel B b c) : Bel B a c := fun hB => (h hB).trans (k (Nat.le_trans hB (h hB).size))
theorem bel_out {w w' : World} (h : Bel w.heap.size w w') : Ext w w' :=
 have b := h (Nat.le_refl _)
 ⟨b.os, b.tape, b.output, b.size, fun k hk _ => b.block k hk⟩
theorem bel_gr {B : Nat} {a b : World} {row : Option Nat} (hg : Gr a b row) (hr : ∀ g, row = some g → B ≤ g) : Bel B a b := fun hB =>
 ⟨hg.os, hg.tape, hg.output, hg.size, fun k hk => hg.block k (by omega) fun e => by have := hr k e.symm; omega⟩
/-- Only rows and blocks of the types ts, from B on, turn. -/
def RT (B : Nat) (ts : List Nat) (a b : World) : Prop :=
 b.os = a.os ∧ b.tape = a.tape ∧ b.output = a.output ∧ a.heap.size ≤ b.heap.size ∧ ∀ k, k < a.heap.size → (k < B ∨ ∀ (e : TypeId) (cur : Array Value) (fz : Nat × Nat), e ∈ ts → a.heap[k]? ≠ some (.cells cur e fz)) → b.heap[k]? = a.heap[k]?
section
variable {B : Nat} {ts : List Nat} {a b : World}
theorem RT.size (h : RT B ts a b) : a.heap.size ≤ b.heap.size := h.2.2.2.1
theorem RT.rd {lo hi size n c : Nat} {A : Option Addr} {xs : List Value} (k : RT B ts a b) (h : Rd a lo hi size A n c xs) (hB : hi ≤ B) : Rd b lo hi size A n c xs :=
 h.keep fun p h1 h2 h3 => World.cell?_of_block (k.2.2.2.2 p.block h3 (.inl (by omega)))
theorem RT.own {lo size n c : Nat} {e : TypeId} {A : Option Addr} {xs : List Value} (k : RT B ts a b) (h : Own a lo e size A n c xs) (he : e ∉ ts) : Own b lo e size A n c xs := by
 refine ⟨h.1, ?_⟩
 rcases h.2 with h2 | ⟨g, cap, cur, hv, hb, hh, r⟩
 ·exact .inl h2
 ·refine .inr ⟨g, cap, cur, hv, hb, ?_, r⟩
  rw [k.2.2.2.2 g (Array.getElem?_eq_some_iff.1 hh).1 (.inr fun e' cur' fz' he' hc => by
   have := hc.symm.trans hh
   simp only [Option.some.injEq, Obj.cells.injEq] at this
   exact he (this.2.1 ▸ he'))]
  exact hh
theorem RT.bk {g : Nat} {t : TypeId} {cs : List Value} (k : RT B ts a b) (h : Blk a g t cs) (he : t ∉ ts) : Blk b g t cs :=
 (k.2.2.2.2 g h.lt (.inr fun e' cur' fz' he' hc => by
   have := hc.symm.trans h
   simp only [Option.some.injEq, Obj.cells.injEq] at this
   exact he (this.2.1 ▸ he'))).trans h
theorem RT.e0 {w : World} (k : RT B ts a b) (h : Ext w a) (hB : w.heap.size ≤ B) : Ext w b :=
 ⟨k.1.trans h.os, k.2.1.trans h.tape, k.2.2.1.trans h.output, Nat.le_trans h.size k.size, fun i hi _ => (k.2.2.2.2 i (Nat.lt_of_lt_of_le hi h.size) (.inl (by omega))).trans (h.block i hi (by simp))⟩
theorem RT.g0 {w : World} {row : Option Nat} (k : RT B ts a b) (h : Gr w a row) (hB : w.heap.size ≤ B) : Gr w b row :=
 ⟨k.1.trans h.os, k.2.1.trans h.tape, k.2.2.1.trans h.output, Nat.le_trans h.size k.size, fun i hi hn => (k.2.2.2.2 i (Nat.lt_of_lt_of_le hi h.size) (.inl (by omega))).trans (h.block i hi hn)⟩
end
/-- Below B nothing turns, and no row of e's anywhere. -/
def BelU (B : Nat) (e : TypeId) (a b : World) : Prop := Bel B a b ∧ ∀ (k : Nat) (cur : Array Value) (fz : Nat × Nat), a.heap[k]? = some (.cells cur e fz) → b.heap[k]? = a.heap[k]?
theorem belu_ext {B : Nat} {e : TypeId} (a b : World) (h : Ext a b) : BelU B e a b := ⟨bel_ext a b h, fun k cur fz hk => h.block k (Array.getElem?_eq_some_iff.1 hk).1 (by simp)⟩
theorem belu_tr {B : Nat} {e : TypeId} (a b c : World) (h : BelU B e a b) (k : BelU B e b c) : BelU B e a c :=
 ⟨bel_tr a b c h.1 k.1, fun i cur fz hi => (k.2 i cur fz ((h.2 i cur fz hi).trans hi)).trans (h.2 i cur fz hi)⟩
theorem belu_out {w w' : World} {e : TypeId} (h : BelU w.heap.size e w w') : Ext w w' := bel_out h.1
theorem belu_store {B g : Nat} {e t : TypeId} {a b : World} {cs : List Value} (hg : Gr a b (some g)) (hb : Blk a g t cs) (ht : e ≠ t) (hr : B ≤ g) : BelU B e a b :=
 ⟨bel_gr hg (fun x e => by cases e; exact hr), fun k cur fz hk => hg.block k (Array.getElem?_eq_some_iff.1 hk).1 (fun e2 => by
  cases e2
  have := hk.symm.trans hb
  simp only [Option.some.injEq, Obj.cells.injEq] at this
  exact ht this.2.1)⟩
theorem Own.belu {B lo size n c : Nat} {e : TypeId} {A : Option Addr} {xs : List Value} {a b : World} (h : Own a lo e size A n c xs) (k : BelU B e a b) : Own b lo e size A n c xs := by
 refine ⟨h.1, ?_⟩
 rcases h.2 with h2 | ⟨g, cap, cur, hv, hb, hh, r⟩
 ·exact .inl h2
 ·exact .inr ⟨g, cap, cur, hv, hb, (k.2 g cur _ hh).trans hh, r⟩
/-- All blocks that were there are as they were, but those in gs. -/
structure Kp (gs : List Nat) (a b : World) : Prop where
 os : b.os = a.os
 tape : b.tape = a.tape
 output : b.output = a.output
 size : a.heap.size ≤ b.heap.size
 block : ∀ k, k < a.heap.size → k ∉ gs → b.heap[k]? = a.heap[k]?
section
variable {w w' a b : World} {gs : List Nat}
theorem Kp.rd {lo hi size n c : Nat} {A : Option Addr} {xs : List Value} (hk : Kp gs w w') (h : Rd w lo hi size A n c xs) (hg : ∀ g ∈ gs, g < lo ∨ hi ≤ g) : Rd w' lo hi size A n c xs :=
 h.keep fun p h1 h2 h3 => World.cell?_of_block (hk.block p.block h3 (fun e => by have := hg _ e; omega))
theorem Kp.bk {g : Nat} {t : TypeId} {cs : List Value} (hk : Kp gs w w') (h : Blk w g t cs) (hg : g ∉ gs) : Blk w' g t cs := (hk.block g h.lt hg).trans h
theorem Kp.own {lo : Nat} {e : TypeId} {size n c : Nat} {A : Option Addr} {xs : List Value} (hk : Kp gs w w') (h : Own w lo e size A n c xs) (hg : ∀ g, blk A = some g → g ∉ gs) : Own w' lo e size A n c xs := by
 refine ⟨h.1, ?_⟩
 rcases h.2 with h2 | ⟨g, cap, cur, hv, hb, hh, r⟩
 ·exact .inl h2
 ·refine .inr ⟨g, cap, cur, hv, hb, ?_, r⟩
  simp only [Value.slice.injEq] at hv
  obtain ⟨rfl, _, _⟩ := hv
  rw [hk.block g (Array.getElem?_eq_some_iff.1 hh).1 (hg g rfl)]
  exact hh
theorem Kp.e0 (hk : Kp gs a b) (h : Ext w a) (hg : ∀ g ∈ gs, w.heap.size ≤ g) : Ext w b :=
 ⟨hk.os.trans h.os, hk.tape.trans h.tape, hk.output.trans h.output, Nat.le_trans h.size hk.size, fun k hk' _ =>
  (hk.block k (Nat.lt_of_lt_of_le hk' h.size) (fun e => by have := hg k e; omega)).trans (h.block k hk' (by simp))⟩
theorem Kp.g0 {row : Option Nat} (hk : Kp gs a b) (h : Gr w a row) (hg : ∀ g ∈ gs, row = some g ∨ w.heap.size ≤ g) : Gr w b row :=
 ⟨hk.os.trans h.os, hk.tape.trans h.tape, hk.output.trans h.output, Nat.le_trans h.size hk.size, fun k hk' hne =>
  (hk.block k (Nat.lt_of_lt_of_le hk' h.size) (fun e => by rcases hg k e with e' | e'; exact hne e'.symm; omega)).trans (h.block k hk' hne)⟩
end
/-- Below B nothing turns but the blocks gs, and these keep their kind and size. -/
def BelS (B : Nat) (gs : List Nat) (a b : World) : Prop := B ≤ a.heap.size →
 (b.os = a.os ∧ b.tape = a.tape ∧ b.output = a.output ∧ a.heap.size ≤ b.heap.size ∧ ∀ k, k < B → k ∉ gs → b.heap[k]? = a.heap[k]?) ∧
 ∀ g ∈ gs, ∀ t cs, Blk a g t cs → ∃ cs', cs'.length = cs.length ∧ Blk b g t cs'
theorem bels_ext {B : Nat} {gs : List Nat} (a b : World) (h : Ext a b) : BelS B gs a b := fun hB =>
 ⟨⟨h.os, h.tape, h.output, h.size, fun k hk _ => h.block k (by omega) (by simp)⟩, fun _ _ _ cs hb => ⟨cs, rfl, hb.ext h⟩⟩
theorem bels_tr {B : Nat} {gs : List Nat} (a b c : World) (h : BelS B gs a b) (k : BelS B gs b c) : BelS B gs a c := fun hB => by
 obtain ⟨⟨h1, h2, h3, h4, h5⟩, h6⟩ := h hB
 obtain ⟨⟨k1, k2, k3, k4, k5⟩, k6⟩ := k (Nat.le_trans hB h4)
 refine ⟨⟨k1.trans h1, k2.trans h2, k3.trans h3, Nat.le_trans h4 k4, fun i hi hn => (k5 i hi hn).trans (h5 i hi hn)⟩, fun g hg t cs hb => ?_⟩
 obtain ⟨cs', e, hb'⟩ := h6 g hg t cs hb
 obtain ⟨cs'', e', hb''⟩ := k6 g hg t cs' hb'
 exact ⟨cs'', e'.trans e, hb''⟩
theorem bels_out {w w' : World} {gs : List Nat} (h : BelS w.heap.size gs w w') : Kp gs w w' := by
 obtain ⟨⟨h1, h2, h3, h4, h5⟩, _⟩ := h (Nat.le_refl _)
 exact ⟨h1, h2, h3, h4, h5⟩
theorem bels_blk {w w' : World} {gs : List Nat} (h : BelS w.heap.size gs w w') {g : Nat} (hg : g ∈ gs) {t : TypeId} {cs : List Value} (hb : Blk w g t cs) : ∃ cs', cs'.length = cs.length ∧ Blk w' g t cs' := (h (Nat.le_refl _)).2 g hg t cs hb
theorem bels_store {B : Nat} {gs : List Nat} {a b : World} {g : Nat} {t : TypeId} {cs vs : List Value} (hg : Gr a b (some g)) (hin : g ∈ gs) (ha : Blk a g t cs) (hb : Blk b g t vs) (hl : cs.length = vs.length) : BelS B gs a b := fun hB =>
  ⟨⟨hg.os, hg.tape, hg.output, hg.size, fun k hk hn => hg.block k (by omega) fun e => by cases e; exact hn hin⟩,
   fun g' h t' cs' hb' => by
    by_cases e : g' = g
    · subst e
      have h1 := ha.symm.trans hb'
      simp only [Option.some.injEq, Obj.cells.injEq] at h1
      obtain ⟨e1, e2, _⟩ := h1
      subst e2
      refine ⟨vs, ?_, hb⟩
      have := congrArg Array.size e1
      simp at this
      omega
    · exact ⟨cs', rfl, hb'.gr hg (fun e' => e (by cases e'; rfl))⟩⟩
end Go.Proofs.YtiighkbehiddkaaGreat