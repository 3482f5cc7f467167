/-
 Words for memory (a slice that reads as a list of cells; a row of one's own; a block known whole; what a step may have changed) and the operations that read, make and write memory, over any program. Plain laws. No condition.
-/
import Derived.Test.YtiighkbehiddkaaGreatOps
import Derived.Lib.SlBytesConst
import Derived.Lib.ConvBytes
import Derived.OwnWalk
namespace Go.Proofs.YtiighkbehiddkaaGreat
open Go.RowKit
abbrev u8v (b : UInt8) : Value := .int .u8 b.toNat
def blk (A : Option Addr) : Option Nat := A.map (·.block)
/-- w' is w with new blocks and, at most, writes to block 'row'. -/
abbrev Gr (w w' : World) (row : Option Nat) : Prop := w.grownBy w' row
/-- w' is w with new blocks. -/
abbrev Ext (w w' : World) : Prop := w.grownBy w' none
theorem ext_refl (w : World) : Ext w w := World.grownBy.refl w none
theorem Ext.row {w w' : World} (h : Ext w w') (row : Option Nat) : Gr w w' row := ⟨h.os, h.tape, h.output, h.size, fun k hk _ => h.block k hk (by simp)⟩
theorem Ext.tr {a b c : World} (h : Ext a b) (k : Ext b c) : Ext a c := h.trans k
theorem Ext.gr {a b c : World} {row : Option Nat} (h : Ext a b) (k : Gr b c row) (hr : ∀ g, row = some g → a.heap.size ≤ g) : Ext a c :=
 ⟨k.os.trans h.os, k.tape.trans h.tape, k.output.trans h.output, Nat.le_trans h.size k.size, fun i hi _ => (k.block i (Nat.lt_of_lt_of_le hi h.size) (fun e => by have := hr i e.symm; omega)).trans (h.block i hi (by simp))⟩
theorem Gr.gr {a b c : World} {row r' : Option Nat} (h : Gr a b row) (k : Gr b c r') (hr : ∀ g, r' = some g → row = some g ∨ a.heap.size ≤ g) : Gr a c row :=
 ⟨k.os.trans h.os, k.tape.trans h.tape, k.output.trans h.output, Nat.le_trans h.size k.size, fun i hi hne => (k.block i (Nat.lt_of_lt_of_le hi h.size) (fun e => by rcases hr i e.symm with h' | h'; exact hne h'.symm; omega)).trans (h.block i hi hne)⟩
theorem Ext.below {w w' : World} (h : Ext w w') : Below w.heap.size w w' := ⟨h.os, h.tape, h.output, h.size, fun k hk => h.block k hk (by simp)⟩
theorem ext_alloc (w : World) (o : Obj) : Ext w (w.alloc o) := World.grownBy_alloc w o none
theorem ext_drew (w : World) : Ext w w.drew := ⟨rfl, rfl, rfl, Nat.le_refl _, fun _ _ _ => rfl⟩
/-- The slice with address A, n elements of 'size' cells, capacity c reads as the cells xs; its block lies in [lo, hi). -/
def Rd (w : World) (lo hi size : Nat) (A : Option Addr) (n c : Nat) (xs : List Value) : Prop :=
 n ≤ c ∧ c ≤ maxLen ∧ xs.length = n * size ∧ (xs ≠ [] → ∃ ad, A = some ad ∧ lo ≤ ad.block ∧ ad.block < hi ∧ ∀ j u, xs[j]? = some u → w.cell? (ad.add j) = some u)
/-- The same for bytes. -/
abbrev RdB (w : World) (lo hi : Nat) (A : Option Addr) (c : Nat) (l : List UInt8) : Prop := Rd w lo hi 1 A l.length c (l.map u8v)
section
variable {w w' : World} {lo hi lo' hi' size n c : Nat} {A : Option Addr} {xs : List Value}
theorem Rd.nil (w : World) (lo hi size : Nat) (A : Option Addr) (c : Nat) (hc : c ≤ maxLen) : Rd w lo hi size A 0 c [] := ⟨Nat.zero_le _, hc, by simp, fun h => absurd rfl h⟩
theorem Rd.mono (h : Rd w lo hi size A n c xs) (h1 : lo' ≤ lo) (h2 : hi ≤ hi') : Rd w lo' hi' size A n c xs :=
 ⟨h.1, h.2.1, h.2.2.1, fun hn => by obtain ⟨ad, e, a, b, hc⟩ := h.2.2.2 hn; exact ⟨ad, e, by omega, by omega, hc⟩⟩
theorem Rd.keep (h : Rd w lo hi size A n c xs) (hk : ∀ p : Addr, lo ≤ p.block → p.block < hi → p.block < w.heap.size → w'.cell? p = w.cell? p) : Rd w' lo hi size A n c xs :=
 ⟨h.1, h.2.1, h.2.2.1, fun hn => by
  obtain ⟨ad, e, a, b, hc⟩ := h.2.2.2 hn
  refine ⟨ad, e, a, b, fun j u hu => ?_⟩
  have hb : (ad.add j).block = ad.block := by unfold Addr.add; split <;> rfl
  exact (hk _ (by rw [hb]; exact a) (by rw [hb]; exact b) (World.block_lt_of_cell? w _ (hc j u hu))).trans (hc j u hu)⟩
theorem Rd.gr (h : Rd w lo hi size A n c xs) {row : Option Nat} (hg : Gr w w' row) (hr : ∀ g, row = some g → g < lo ∨ hi ≤ g) : Rd w' lo hi size A n c xs :=
 h.keep fun p h1 h2 h3 => World.cell?_of_block (hg.block p.block h3 (fun e => by have := hr _ e.symm; omega))
theorem Rd.ext (h : Rd w lo hi size A n c xs) (hg : Ext w w') : Rd w' lo hi size A n c xs := h.gr hg fun g e => by cases e
theorem Rd.top (h : Rd w lo hi size A n c xs) : Rd w lo w.heap.size size A n c xs :=
 ⟨h.1, h.2.1, h.2.2.1, fun hn => by
  obtain ⟨ad, e, a, b, hc⟩ := h.2.2.2 hn
  refine ⟨ad, e, a, ?_, hc⟩
  obtain ⟨u, hu⟩ : ∃ u, xs[0]? = some u := by cases xs with | nil => exact absurd rfl hn | cons x _ => exact ⟨x, rfl⟩
  have hb : (ad.add 0).block = ad.block := by unfold Addr.add; split <;> rfl
  have := World.block_lt_of_cell? w _ (hc 0 u hu)
  rw [hb] at this
  exact this⟩
theorem Rd.at_ (h : Rd w lo hi 1 A n c xs) {k : Nat} (hk : k < n) : ∃ ad, A = some ad ∧ lo ≤ ad.block ∧ ad.block < hi ∧ w.cell? (ad.add k) = xs[k]? := by
 have hl : k < xs.length := by have := h.2.2.1; omega
 obtain ⟨ad, e, a, b, hc⟩ := h.2.2.2 (fun e => by simp [e] at hl)
 exact ⟨ad, e, a, b, by rw [hc k _ (List.getElem?_eq_getElem hl), List.getElem?_eq_getElem hl]⟩
theorem Rd.cells (h : Rd w lo hi size A n c xs) (hn : xs ≠ []) : ∃ ad, A = some ad ∧ ∀ j u, xs[j]? = some u → w.cell? (ad.add j) = some u := by
 obtain ⟨ad, e, _, _, hc⟩ := h.2.2.2 hn; exact ⟨ad, e, hc⟩
theorem Rd.of_own {e : TypeId} {base : Nat} (h : w.ownsRow base e size (.slice A n c) n xs) : Rd w base w.heap.size size A n c xs := by
 rcases h.2 with ⟨hv, hn⟩ | ⟨g, cap, cur, hv, hb, hg, hnc, hcm, hcs, ht⟩
 ·simp only [Value.slice.injEq] at hv
  obtain ⟨rfl, rfl, rfl⟩ := hv
  have : xs = [] := List.eq_nil_of_length_eq_zero (by simpa using h.1)
  subst this
  exact Rd.nil _ _ _ _ _ _ (by simp [maxLen])
 ·simp only [Value.slice.injEq] at hv
  obtain ⟨rfl, _, rfl⟩ := hv
  exact ⟨hnc, hcm, h.1, fun _ => ⟨_, rfl, hb, (Array.getElem?_eq_some_iff.1 hg).1, h.cells (g := g) rfl⟩⟩
theorem add_add' (a : Addr) (i j : Nat) : (a.add i).add j = a.add (i + j) := by
 unfold Addr.add
 by_cases hi : i = 0 <;> by_cases hj : j = 0 <;> simp [hi, hj, Nat.add_assoc]
theorem Rd.cut (h : Rd w lo hi size A n c xs) {l k m : Nat} (h1 : l ≤ k) (h2 : k ≤ n) (h3 : k ≤ m) (h4 : m ≤ c) :
  Rd w lo hi size (if m = l then A else A.map (·.add (l * size))) (k - l) (m - l) ((xs.drop (l * size)).take ((k - l) * size)) := by
 have hlen : l * size + (k - l) * size ≤ xs.length := by rw [h.2.2.1, ← Nat.add_mul]; exact Nat.mul_le_mul_right _ (by omega)
 refine ⟨by omega, by have := h.2.1; omega, by simp only [List.length_take, List.length_drop]; omega, fun hn => ?_⟩
 have hne : xs ≠ [] := fun e => hn (by simp [e])
 obtain ⟨ad, e, a, b, hc⟩ := h.2.2.2 hne
 subst e
 have hkl : k ≠ l := fun e => hn (by simp [e])
 rw [if_neg (by omega)]
 refine ⟨ad.add (l * size), rfl, ?_, ?_, fun j u hu => ?_⟩
 ·have hb : (ad.add (l * size)).block = ad.block := by unfold Addr.add; split <;> rfl
  rw [hb]; exact a
 ·have hb : (ad.add (l * size)).block = ad.block := by unfold Addr.add; split <;> rfl
  rw [hb]; exact b
 ·rw [add_add']
  rw [List.getElem?_take] at hu
  split at hu
  ·rw [List.getElem?_drop] at hu; exact hc _ u hu
  ·cases hu
end
section
variable {w w' : World} {lo hi c : Nat} {A : Option Addr} {l : List UInt8}
theorem RdB.nil (w : World) (lo hi : Nat) : RdB w lo hi none 0 [] := Rd.nil w lo hi 1 none 0 (Nat.zero_le _)
theorem RdB.nil_eq (h : RdB w lo hi none c l) : l = [] := by
 cases l with
 | nil => rfl
 | cons b l' => obtain ⟨ad, h', _⟩ := h.2.2.2 (by simp); cases h'
theorem RdB.cut (h : RdB w lo hi A c l) {i k m : Nat} (h1 : i ≤ k) (h2 : k ≤ l.length) (h3 : k ≤ m) (h4 : m ≤ c) :
  RdB w lo hi (if m = i then A else A.map (·.add (i * 1))) (m - i) ((l.drop i).take (k - i)) ∧ ((l.drop i).take (k - i)).length = k - i := by
 have hl : ((l.drop i).take (k - i)).length = k - i := by simp only [List.length_take, List.length_drop]; omega
 refine ⟨?_, hl⟩
 have := Rd.cut h h1 h2 h3 h4
 rw [← List.map_drop, ← List.map_take, Nat.mul_one, Nat.mul_one] at this
 unfold RdB
 rw [hl]
 simpa using this
theorem RdB.byte (h : RdB w lo hi A c l) {k : Nat} (hk : k < l.length) : ∃ ad, A = some ad ∧ lo ≤ ad.block ∧ ad.block < hi ∧ w.cell? (ad.add k) = some (u8v (l.getD k 0)) := by
 obtain ⟨ad, e, a, b, hc⟩ := Rd.at_ h hk
 refine ⟨ad, e, a, b, ?_⟩
 rw [hc]
 simp [List.getD, hk]
theorem RdB.cap (h : RdB w lo hi A c l) : l.length ≤ c ∧ c ≤ 9223372036854775807 := ⟨h.1, by have := h.2.1; simpa [maxLen] using this⟩
end
/-! Types. -/
structure SliceTy (P : Program) (t e : TypeId) (size bytes : Nat) (z : Value) : Prop where
 u : P.underlying t = some (.slice e)
 i : ∃ i, P.info? e = some i ∧ i.zero = some z ∧ i.size = size ∧ i.bytes = bytes
 zs : z.cells.size = size
 sz : 0 < size
structure ByteTy (P : Program) (t e : TypeId) : Prop where
 s : SliceTy P t e 1 1 (.int .u8 0)
 e : P.underlying e = some (.int .u8)
theorem sliceTy_mk {P : Program} {t e : TypeId} {size bytes : Nat} {z : Value} (hu : P.underlying t = some (.slice e)) (hi : (P.info? e).map (fun i => (i.zero, i.size, i.bytes)) = some (some z, size, bytes)) (hz : z.cells.size = size) (hs : 0 < size) : SliceTy P t e size bytes z :=
 ⟨hu, info_parts hi, hz, hs⟩
/-! Operations that read. -/
section
variable {P : Program} {L : Env} {w : World} {d : Option Nat} {ty : TypeId} {pos : String} {aft : Array Edge} {gd : Option (Nat × Bool)}
theorem sizeOf_run {e : TypeId} {i : TypeInfo} (hi : P.info? e = some i) : (sizeOf e).run P w = .ok i.size w := by simp [sizeOf, typeInfo, hi]
/-- The address of an element. -/
theorem or_indexAddr {t e : TypeId} {size bytes : Nat} {z : Value} (T : SliceTy P t e size bytes z) {x y : Operand} {A : Addr} {n c : Nat} {k : IntKind} {i : Int} (hx : ev L x = some (.slice (some A) n c)) (hy : ev L y = some (.int k i)) (h0 : 0 ≤ i) (h1' : i < n) :
  OpVal P ⟨d, .indexAddr t x y, ty, pos, aft, gd⟩ L w (.pointer (some (A.add (i.toNat * size)))) :=
 opVal_of fun ρ h1 _ => by
  obtain ⟨inf, hi, _, hsz, _⟩ := T.i
  simp [execOp, h1 x _ hx, h1 y _ hy, Instr.indexAt, run_underlying T.u, asIntOf, h0, h1', sizeOf_run hi, hsz]
/-- A byte's address: the address is a letter, its cell is known. -/
theorem or_bindex {t e : TypeId} (T : ByteTy P t e) {x y : Operand} {lo hi : Nat} {A : Option Addr} {c : Nat} {l : List UInt8} {k : IntKind} {i : Int} (hx : ev L x = some (.slice A l.length c)) (hy : ev L y = some (.int k i))
  (hr : RdB w lo hi A c l) (h0 : 0 ≤ i) (h1' : i < l.length) :
  OpRun P ⟨d, .indexAddr t x y, ty, pos, aft, gd⟩ L w fun v w' => w = w' ∧ ∃ p, v = .pointer (some p) ∧ w.cell? p = some (u8v (l.getD i.toNat 0)) ∧ lo ≤ p.block ∧ p.block < hi := by
 have hk : i.toNat < l.length := by omega
 obtain ⟨ad, rfl, a, b, hc⟩ := RdB.byte hr hk
 refine (or_indexAddr T.s hx hy h0 h1').mono ?_
 rintro v w' ⟨rfl, rfl⟩
 rw [Nat.mul_one]
 have hb : (ad.add i.toNat).block = ad.block := by unfold Addr.add; split <;> rfl
 exact ⟨rfl, _, rfl, hc, by rw [hb]; exact a, by rw [hb]; exact b⟩
def oneCellTy (P : Program) (t : TypeId) : Bool := match P.underlying t with
 | some (.struct _) | some (.array _ _) | none => false
 | some _ => true
theorem isAgg_one {t : TypeId} (h : oneCellTy P t = true) : (isAgg t).run P w = .ok false w := by
 unfold oneCellTy at h
 cases hu : P.underlying t with
 | none => simp [hu] at h
 | some td => cases td <;> simp [hu] at h <;> simp [isAgg, run_underlying hu]
theorem ov_load {t : TypeId} {x : Operand} {p : Addr} {v : Value} (ht : oneCellTy P t = true) (hx : ev L x = some (.pointer (some p))) (hc : w.cell? p = some v) : OpVal P ⟨d, .load t x, ty, pos, aft, gd⟩ L w v :=
 opVal_of fun ρ h1 _ => by simp [execOp, h1 x _ hx, Instr.loadAt, Instr.sureAddr, loadVar, isAgg_one ht, hc]
/-- Cells of a slice: 'x[l:h]', 'x[l:]', 'x[:h]', 'x[l:h:m]'. -/
theorem or_bslice {t e : TypeId} (T : ByteTy P t e) {x : Operand} {lo hi : Nat} {A : Option Addr} {c : Nat} {l : List UInt8} {ol oh om : Option Operand} {a b m : Nat} (hx : ev L x = some (.slice A l.length c)) (hr : RdB w lo hi A c l)
  (hb : ∀ ρ : Operand → Value, (∀ x v, ev L x = some v → ρ x = v) → (Instr.sliceBounds true l.length c (ol.map ρ) (oh.map ρ) (om.map ρ)).run P w = .ok (a, b, m) w) (h1 : a ≤ b) (h2 : b ≤ l.length) (h3 : b ≤ m) (h4 : m ≤ c) :
  OpRun P ⟨d, .slice t x ol oh om, ty, pos, aft, gd⟩ L w fun v w' => w = w' ∧ ∃ A' c', v = .slice A' ((l.drop a).take (b - a)).length c' ∧ RdB w lo hi A' c' ((l.drop a).take (b - a)) ∧ ((l.drop a).take (b - a)).length = b - a :=
 opRun_of fun ρ h1' _ => by
  obtain ⟨inf, hi, _, hsz, _⟩ := T.s.i
  obtain ⟨r1, r2⟩ := RdB.cut hr h1 h2 h3 h4
  refine ⟨_, w, ?_, rfl, (if m = a then A else A.map (·.add (a * 1))), m - a, rfl, r1, r2⟩
  have hu : P.underlying t = some (.slice (P.elem t)) := by simp [Program.elem, T.s.u]
  have he : P.elem t = e := by simp [Program.elem, T.s.u]
  rw [r2]
  simp [execOp, h1' x _ hx, run_sliceAt_slice w t _ _ _ _ hu, run_slice_any w t A l.length c hu, hb ρ h1', he, sizeOf_run hi, hsz, sliced]
theorem bounds_l {ol : Operand} {n c : Nat} {k : IntKind} {i : Int} (h : ev L ol = some (.int k i)) (h0 : 0 ≤ i) (h1 : i ≤ n) (ρ : Operand → Value) (hρ : ∀ x v, ev L x = some v → ρ x = v) :
  (Instr.sliceBounds true n c ((some ol).map ρ) ((none : Option Operand).map ρ) ((none : Option Operand).map ρ)).run P w = .ok (i.toNat, n, c) w := by
 have e := hρ ol _ h
 simp [Instr.sliceBounds, e, run_sliceBound, h0, h1]
theorem bounds_h {oh : Operand} {n c : Nat} {k : IntKind} {i : Int} (h : ev L oh = some (.int k i)) (h0 : 0 ≤ i) (h1 : i ≤ c) (ρ : Operand → Value) (hρ : ∀ x v, ev L x = some v → ρ x = v) :
  (Instr.sliceBounds true n c ((none : Option Operand).map ρ) ((some oh).map ρ) ((none : Option Operand).map ρ)).run P w = .ok (0, i.toNat, c) w := by
 have e := hρ oh _ h
 simp [Instr.sliceBounds, e, run_sliceBound, h0, h1]
theorem bounds_lh {ol oh : Operand} {n c : Nat} {k k' : IntKind} {i j : Int} (h : ev L ol = some (.int k i)) (h' : ev L oh = some (.int k' j)) (h0 : 0 ≤ i) (h1 : i ≤ j) (h2 : j ≤ c) (ρ : Operand → Value) (hρ : ∀ x v, ev L x = some v → ρ x = v) :
  (Instr.sliceBounds true n c ((some ol).map ρ) ((some oh).map ρ) ((none : Option Operand).map ρ)).run P w = .ok (i.toNat, j.toNat, c) w := by
 have e := hρ ol _ h
 have e' := hρ oh _ h'
 have hj : (j.toNat : Int) = j := Int.toNat_of_nonneg (by omega)
 simp [Instr.sliceBounds, e, e', run_sliceBound, h0, h1, h2, hj, (by omega : 0 ≤ j)]
theorem bounds_lhm {ol oh om : Operand} {n c : Nat} {k k' k'' : IntKind} {i j m : Int} (h : ev L ol = some (.int k i)) (h' : ev L oh = some (.int k' j)) (h'' : ev L om = some (.int k'' m)) (h0 : 0 ≤ i) (h1 : i ≤ j) (h2 : j ≤ m) (h3 : m ≤ c) (ρ : Operand → Value) (hρ : ∀ x v, ev L x = some v → ρ x = v) :
  (Instr.sliceBounds true n c ((some ol).map ρ) ((some oh).map ρ) ((some om).map ρ)).run P w = .ok (i.toNat, j.toNat, m.toNat) w := by
 have e := hρ ol _ h
 have e' := hρ oh _ h'
 have e'' := hρ om _ h''
 have hj : (j.toNat : Int) = j := Int.toNat_of_nonneg (by omega)
 have hm : (m.toNat : Int) = m := Int.toNat_of_nonneg (by omega)
 simp [Instr.sliceBounds, e, e', e'', run_sliceBound, h0, h1, h2, h3, hj, hm, (by omega : 0 ≤ j), (by omega : 0 ≤ m)]
/-- A string of a slice of bytes. -/
theorem ov_bstr {s t e : TypeId} (T : ByteTy P t e) (hs : P.underlying s = some .string) {x : Operand} {lo hi : Nat} {A : Option Addr} {c : Nat} {l : List UInt8} (hx : ev L x = some (.slice A l.length c)) (hr : RdB w lo hi A c l) :
  OpVal P ⟨d, .convert t s x, ty, pos, aft, gd⟩ L w (.string (strB l)) :=
 opVal_of fun ρ h1 _ => by
  have hrun : (convert t s (.slice A l.length c)).run P w = .ok (.string (strB l)) w := by
   rw [run_convert_bytes_string w t s e A _ _ T.s.u T.e hs]
   cases A with
   | none =>
    have : l = [] := by
     cases l with
     | nil => rfl
     | cons b l' => obtain ⟨ad, h, _⟩ := hr.2.2.2 (by simp); cases h
    subst this
    simp [Conv.bytesToString]
    rfl
   | some a =>
    have hl : (loadCells a l.length).run P w = .ok ((l.map fun b => (b.toNat : Int)).map (Value.int .u8)).toArray w := by
     have := run_loadCells_list (P := P) w a (l.map u8v) (fun j v hj => by
      have hne : l.map u8v ≠ [] := fun e => by simp [e] at hj
      obtain ⟨ad, h, hc⟩ := Rd.cells hr hne
      cases h
      exact hc j v hj)
     rw [List.length_map] at this
     rw [this, List.map_map]
     rfl
    rw [run_bytesToString w a l.length c _ hl, foldl_push_bytes]
    congr 2
    have hm : (l.map fun b : UInt8 => (b.toNat : Int)).map (fun n => UInt8.ofNat n.toNat) = l := by
     rw [List.map_map]
     conv => rhs; rw [← List.map_id l]
     apply List.map_congr_left
     intro b _
     simp
    simp [strB, ByteArray.empty, ByteArray.emptyWithCapacity, hm]
    rfl
  simp [execOp, h1 x _ hx, hrun]
/-- A slice held against nil: 's == nil'. -/
theorem ov_nilslice {t e tyy : TypeId} {x : Operand} {A : Option Addr} {n c : Nat} (hu : P.underlying t = some (.slice e)) (hx : ev L x = some (.slice A n c)) : OpVal P ⟨d, .binOp .eql t x (.const (.slice none 0 0)) tyy, ty, pos, aft, gd⟩ L w (.bool A.isNone) :=
 opVal_of fun ρ h1 _ => by
  have hc := h1 (.const (.slice none 0 0)) _ rfl
  simp [execOp, h1 x _ hx, hc, go_sem, Lib.run_eql_slice_nil w t e A n c 0 0 hu]
end
end Go.Proofs.YtiighkbehiddkaaGreat