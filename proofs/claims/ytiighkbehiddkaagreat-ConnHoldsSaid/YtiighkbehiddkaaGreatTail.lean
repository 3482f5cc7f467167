/-
 A slice of bytes of one's own that may begin within its block: it is read, cut, appended to (in place or not), moved to the left and cleared. And what a step changes that writes one block and one row. Plain laws, over any program. No condition.
-/
import Derived.Test.YtiighkbehiddkaaGreatBel
import Derived.Lib.SliceRun
namespace Go.Proofs.YtiighkbehiddkaaGreat
open Go.RowKit
set_option linter.unusedVariables false
/-- Bytes of one's own from an offset of a block on. -/
def OwnT (w : World) (lo : Nat) (e : TypeId) (A : Option Addr) (c : Nat) (l : List UInt8) : Prop :=
 l.length ≤ c ∧ c ≤ maxLen ∧ ((A = none ∧ c = 0) ∨ ∃ g off cur, A = some ⟨g, off, none⟩ ∧ lo ≤ g ∧ w.heap[g]? = some (.cells cur e (0, 0)) ∧ off + c ≤ cur.size ∧ (cur.toList.drop off).take l.length = l.map u8v)
/-- All but the block g and the row D is as it was. -/
structure Ch (g : Nat) (D : Option Nat) (a b : World) : Prop where
 os : b.os = a.os
 tape : b.tape = a.tape
 output : b.output = a.output
 size : a.heap.size ≤ b.heap.size
 block : ∀ k, k < a.heap.size → k ≠ g → D ≠ some k → b.heap[k]? = a.heap[k]?
section
variable {w w' : World} {lo c : Nat} {e : TypeId} {A : Option Addr} {l : List UInt8}
theorem OwnT.of (h : OwnB w lo e A c l) : OwnT w lo e A c l := by
 have hr := Own.rd h
 refine ⟨hr.1, hr.2.1, ?_⟩
 rcases h.2 with ⟨hv, hn⟩ | ⟨g, cap, cur, hv, hb, hg, hnc, hcm, hcs, ht⟩
 ·simp only [Value.slice.injEq] at hv
  exact .inl ⟨hv.1, hv.2.2⟩
 ·simp only [Value.slice.injEq] at hv
  obtain ⟨rfl, _, rfl⟩ := hv
  exact .inr ⟨g, 0, cur, rfl, hb, hg, by omega, by simpa using ht⟩
theorem OwnT.nil_ (w : World) (lo : Nat) (e : TypeId) : OwnT w lo e none 0 [] := ⟨Nat.le_refl _, Nat.zero_le _, .inl ⟨rfl, rfl⟩⟩
theorem OwnT.rd (h : OwnT w lo e A c l) : RdB w lo w.heap.size A c l := by
 refine ⟨h.1, h.2.1, by simp, fun hne => ?_⟩
 rcases h.2.2 with ⟨_, hc⟩ | ⟨g, off, cur, rfl, hlo, hg, hs, ht⟩
 ·have := h.1
  exact absurd (List.eq_nil_of_length_eq_zero (by simpa using (by omega : l.length = 0))) hne
 ·refine ⟨_, rfl, hlo, (Array.getElem?_eq_some_iff.1 hg).1, fun j u hu => ?_⟩
  rw [Addr.add_lit, cell_of_row w g _ cur e (0, 0) hg]
  rw [← ht, List.getElem?_take] at hu
  split at hu
  ·rw [List.getElem?_drop] at hu
   rw [← hu, Array.getElem?_toList]
  ·cases hu
theorem OwnT.lt (h : OwnT w lo e A c l) {g : Nat} (hg : blk A = some g) : lo ≤ g ∧ g < w.heap.size := by
 rcases h.2.2 with ⟨rfl, _⟩ | ⟨g', off, cur, rfl, hlo, hh, _⟩
 ·cases hg
 ·cases hg; exact ⟨hlo, (Array.getElem?_eq_some_iff.1 hh).1⟩
theorem OwnT.same (h : OwnT w lo e A c l) (hk : ∀ g, blk A = some g → w'.heap[g]? = w.heap[g]?) : OwnT w' lo e A c l := by
 refine ⟨h.1, h.2.1, ?_⟩
 rcases h.2.2 with h2 | ⟨g, off, cur, rfl, hlo, hh, r⟩
 ·exact .inl h2
 ·exact .inr ⟨g, off, cur, rfl, hlo, (hk g rfl).trans hh, r⟩
theorem OwnT.gr (h : OwnT w lo e A c l) {row : Option Nat} (hg : Gr w w' row) (hr : blk A = none ∨ blk A ≠ row) : OwnT w' lo e A c l :=
 h.same fun g e => hg.block g (h.lt e).2 fun e' => by
  rcases hr with hr | hr
  ·rw [e] at hr; cases hr
  ·rw [e] at hr; exact hr e'
theorem OwnT.ext (h : OwnT w lo e A c l) (hg : Ext w w') : OwnT w' lo e A c l := h.gr hg (by cases A <;> simp [blk])
theorem OwnT.mono {lo' : Nat} (h : OwnT w lo e A c l) (hl : lo' ≤ lo) : OwnT w lo' e A c l := by
 refine ⟨h.1, h.2.1, ?_⟩
 rcases h.2.2 with h2 | ⟨g, off, cur, rfl, hlo, hh, r⟩
 ·exact .inl h2
 ·exact .inr ⟨g, off, cur, rfl, by omega, hh, r⟩
theorem OwnT.ne {g : Nat} {t : TypeId} {cs : List Value} (h : OwnT w lo e A c l) (hb : Blk w g t cs) (ht : e ≠ t) : blk A ≠ some g := by
 intro hA
 rcases h.2.2 with ⟨rfl, _⟩ | ⟨g', off, cur, rfl, hlo, hh, _⟩
 ·cases hA
 ·cases hA
  have := hh.symm.trans hb
  simp only [Option.some.injEq, Obj.cells.injEq] at this
  exact ht this.2.1
/-- Its first bytes. -/
theorem OwnT.take (h : OwnT w lo e A c l) (k : Nat) : OwnT w lo e A c (l.take k) := by
 refine ⟨Nat.le_trans (by simp; omega) h.1, h.2.1, ?_⟩
 rcases h.2.2 with h2 | ⟨g, off, cur, rfl, hlo, hh, hs, ht⟩
 ·exact .inl h2
 ·refine .inr ⟨g, off, cur, rfl, hlo, hh, hs, ?_⟩
  rw [List.map_take, ← ht, List.take_take, List.length_take]
/-- What is left of it. -/
theorem OwnT.drop (h : OwnT w lo e A c l) {k : Nat} (hk : k ≤ l.length) : OwnT w lo e (if c = k then A else A.map (·.add (k * 1))) (c - k) (l.drop k) := by
 have h1 := h.1
 have h2 := h.2.1
 refine ⟨by rw [List.length_drop]; omega, by omega, ?_⟩
 rcases h.2.2 with ⟨rfl, hc⟩ | ⟨g, off, cur, rfl, hlo, hh, hs, ht⟩
 ·exact .inl ⟨by split <;> rfl, by omega⟩
 ·by_cases hck : c = k
  ·rw [if_pos hck]
   refine .inr ⟨g, off, cur, rfl, hlo, hh, by omega, ?_⟩
   rw [List.drop_eq_nil_of_le (by omega)]; rfl
  ·rw [if_neg hck]
   refine .inr ⟨g, off + k, cur, by rw [Nat.mul_one, Option.map_some, Addr.add_lit], hlo, hh, by omega, ?_⟩
   rw [List.map_drop, ← ht, List.drop_take, List.drop_drop, List.length_drop]
theorem blk_drop (A : Option Addr) (c k : Nat) : blk (if c = k then A else A.map (·.add (k * 1))) = blk A := by
 split
 ·rfl
 ·cases A with
  | none => rfl
  | some a =>
   have hb : (a.add (k * 1)).block = a.block := by unfold Addr.add; split <;> rfl
   exact congrArg some hb
end
/-! What a step changes. -/
section
variable {a b d w : World} {g : Nat} {D D' : Option Nat}
theorem Ch.refl (g : Nat) (D : Option Nat) (a : World) : Ch g D a a := ⟨rfl, rfl, rfl, Nat.le_refl _, fun _ _ _ _ => rfl⟩
theorem Ch.of_ext (h : Ext a b) : Ch g D a b := ⟨h.os, h.tape, h.output, h.size, fun k hk _ _ => h.block k hk (by simp)⟩
theorem Ch.of_gr (h : Gr a b (some g)) : Ch g D a b := ⟨h.os, h.tape, h.output, h.size, fun k hk h1 _ => h.block k hk (fun e => h1 (by cases e; rfl))⟩
theorem Ch.of_row (h : Gr a b D) : Ch g D a b := ⟨h.os, h.tape, h.output, h.size, fun k hk _ h1 => h.block k hk (fun e => h1 e.symm)⟩
theorem Ch.tr (h : Ch g D a b) (k : Ch g D' b d) (hD : ∀ x, D' = some x → D = some x ∨ a.heap.size ≤ x) : Ch g D a d :=
 ⟨k.os.trans h.os, k.tape.trans h.tape, k.output.trans h.output, Nat.le_trans h.size k.size, fun i hi h1 h2 =>
  (k.block i (Nat.lt_of_lt_of_le hi h.size) h1 (fun e => by rcases hD i e with h3 | h3; exact h2 h3; omega)).trans (h.block i hi h1 h2)⟩
theorem Ch.ext (h : Ch g D a b) (k : Ext b d) : Ch g D a d := h.tr (Ch.of_ext (D := D) k) fun x e => .inl e
theorem Ch.pre (h : Ext a b) (k : Ch g D b d) (hD : ∀ x, D = some x → x < a.heap.size) : Ch g D a d := (Ch.of_ext h).tr k fun x e => .inl e
theorem Ch.rd {lo hi size n c : Nat} {A : Option Addr} {xs : List Value} (k : Ch g D a b) (h : Rd a lo hi size A n c xs) (hg : g < lo ∨ hi ≤ g) (hD : ∀ x, D = some x → x < lo ∨ hi ≤ x) : Rd b lo hi size A n c xs :=
 h.keep fun p h1 h2 h3 => World.cell?_of_block (k.block p.block h3 (fun e => by omega) (fun e => by have := hD _ e; omega))
theorem Ch.e0 (k : Ch g D a b) (h : Ext w a) (hg : w.heap.size ≤ g) (hD : ∀ x, D = some x → w.heap.size ≤ x) : Ext w b :=
 ⟨k.os.trans h.os, k.tape.trans h.tape, k.output.trans h.output, Nat.le_trans h.size k.size, fun i hi _ =>
  (k.block i (Nat.lt_of_lt_of_le hi h.size) (fun e => by omega) (fun e => by have := hD _ e; omega)).trans (h.block i hi (by simp))⟩
theorem Ch.bk {g2 : Nat} {t : TypeId} {cs : List Value} (k : Ch g D a b) (h : Blk a g2 t cs) (hg : g2 ≠ g) (hD : D ≠ some g2) : Blk b g2 t cs := (k.block g2 h.lt hg hD).trans h
theorem Ch.ownT {lo c : Nat} {e : TypeId} {A : Option Addr} {l : List UInt8} (k : Ch g D a b) (h : OwnT a lo e A c l) (hg : ∀ x, blk A = some x → x ≠ g ∧ D ≠ some x) : OwnT b lo e A c l :=
 h.same fun x e => k.block x (h.lt e).2 (hg x e).1 (hg x e).2
theorem Ch.own {lo n c size : Nat} {e : TypeId} {A : Option Addr} {xs : List Value} (k : Ch g D a b) (h : Own a lo e size A n c xs) (hg : ∀ x, blk A = some x → x ≠ g ∧ D ≠ some x) : Own b lo e size A n c xs := by
 refine ⟨h.1, ?_⟩
 rcases h.2 with h2 | ⟨g', cap, cur, hv, hb, hh, r⟩
 ·exact .inl h2
 ·refine .inr ⟨g', cap, cur, hv, hb, ?_, r⟩
  simp only [Value.slice.injEq] at hv
  obtain ⟨rfl, _, _⟩ := hv
  rw [k.block g' (Array.getElem?_eq_some_iff.1 hh).1 (hg g' rfl).1 (hg g' rfl).2]
  exact hh
theorem Ch.gr2 {row : Option Nat} (h : Ch g D w a) (k : Gr a b row) (hr : ∀ x, row = some x → x = g ∨ D = some x ∨ w.heap.size ≤ x) : Ch g D w b :=
 ⟨k.os.trans h.os, k.tape.trans h.tape, k.output.trans h.output, Nat.le_trans h.size k.size, fun i hi h1 h2 =>
  (k.block i (Nat.lt_of_lt_of_le hi h.size) (fun e => by rcases hr i e.symm with h3 | h3 | h3; exact h1 h3; exact h2 h3; omega)).trans (h.block i hi h1 h2)⟩
theorem Ch.kp2 {gs : List Nat} (h : Ch g D w a) (k : Kp gs a b) (hg : ∀ x ∈ gs, x = g ∨ w.heap.size ≤ x) : Ch g D w b :=
 ⟨k.os.trans h.os, k.tape.trans h.tape, k.output.trans h.output, Nat.le_trans h.size k.size, fun i hi h1 h2 =>
  (k.block i (Nat.lt_of_lt_of_le hi h.size) (fun e => by rcases hg i e with h3 | h3; exact h1 h3; omega)).trans (h.block i hi h1 h2)⟩
theorem RT.ch {B : Nat} {ts : List Nat} (k : RT B ts a b) (h : Ch g D w a) (hB : w.heap.size ≤ B) : Ch g D w b :=
 ⟨k.1.trans h.os, k.2.1.trans h.tape, k.2.2.1.trans h.output, Nat.le_trans h.size k.size, fun i hi h1 h2 => (k.2.2.2.2 i (Nat.lt_of_lt_of_le hi h.size) (.inl (by omega))).trans (h.block i hi h1 h2)⟩
theorem RT.ownT {B : Nat} {ts : List Nat} {lo c : Nat} {e : TypeId} {A : Option Addr} {l : List UInt8} (k : RT B ts a b) (h : OwnT a lo e A c l) (he : e ∉ ts) : OwnT b lo e A c l := by
 refine ⟨h.1, h.2.1, ?_⟩
 rcases h.2.2 with h2 | ⟨g, off, cur, rfl, hlo, hh, r⟩
 ·exact .inl h2
 ·exact .inr ⟨g, off, cur, rfl, hlo, (k.2.2.2.2 g (Array.getElem?_eq_some_iff.1 hh).1 (.inr fun e' cur' fz' he' hc => by
   have := hc.symm.trans hh
   simp only [Option.some.injEq, Obj.cells.injEq] at this
   exact he (this.2.1 ▸ he'))).trans hh, r⟩
theorem Kp.ownT {gs : List Nat} {lo c : Nat} {e : TypeId} {A : Option Addr} {l : List UInt8} (k : Kp gs a b) (h : OwnT a lo e A c l) (hg : ∀ x, blk A = some x → x ∉ gs) : OwnT b lo e A c l :=
 h.same fun x e => k.block x (h.lt e).2 (hg x e)
theorem Ch.kp {gs : List Nat} (k : Kp gs a b) (h : ∀ x ∈ gs, x = g ∨ D = some x ∨ a.heap.size ≤ x) : Ch g D a b :=
 ⟨k.os, k.tape, k.output, k.size, fun i hi h1 h2 => k.block i hi fun e => by rcases h i e with h3 | h3 | h3; exact h1 h3; exact h2 h3; omega⟩
end
/-! Operations. -/
section
variable {P : Program} {L : Env} {w : World} {d : Option Nat} {ty : TypeId} {pos : String} {aft : Array Edge} {gd : Option (Nat × Bool)}
/-- A cut of a slice, its value alone. -/
theorem ov_slice {t e : TypeId} (T : ByteTy P t e) {x : Operand} {A : Option Addr} {n c : Nat} {ol oh om : Option Operand} {a b m : Nat} (hx : ev L x = some (.slice A n c))
  (hb : ∀ ρ : Operand → Value, (∀ x v, ev L x = some v → ρ x = v) → (Instr.sliceBounds true n c (ol.map ρ) (oh.map ρ) (om.map ρ)).run P w = .ok (a, b, m) w) :
  OpVal P ⟨d, .slice t x ol oh om, ty, pos, aft, gd⟩ L w (.slice (if m = a then A else A.map (·.add (a * 1))) (b - a) (m - a)) :=
 opVal_of fun ρ h1' _ => by
  obtain ⟨inf, hi, _, hsz, _⟩ := T.s.i
  have hu : P.underlying t = some (.slice (P.elem t)) := by simp [Program.elem, T.s.u]
  have he : P.elem t = e := by simp [Program.elem, T.s.u]
  simp [execOp, h1' x _ hx, run_sliceAt_slice w t _ _ _ _ hu, run_slice_any w t A n c hu, hb ρ h1', he, sizeOf_run hi, hsz, sliced]
/-- x[:b]. -/
theorem ov_ttake {t e : TypeId} (T : ByteTy P t e) {x : Operand} {lo : Nat} {A : Option Addr} {c : Nat} {l : List UInt8} {oh : Operand} {k : IntKind} {i : Int} (b : Nat) (hx : ev L x = some (.slice A l.length c)) (hr : OwnT w lo e A c l)
  (hh : ev L oh = some (.int k i)) (hi : i = b) (hb : b ≤ l.length) : OpVal P ⟨d, .slice t x none (some oh) none, ty, pos, aft, gd⟩ L w (.slice A (l.take b).length c) := by
 subst hi
 have h1 := hr.1
 have := ov_slice (d := d) (ty := ty) (pos := pos) (aft := aft) (gd := gd) (w := w) T (ol := none) (oh := some oh) (om := none) (a := 0) (b := b) (m := c) hx (fun ρ hρ => by have := bounds_h (P := P) (w := w) (n := l.length) (c := c) hh (by omega) (by omega) ρ hρ; simpa using this)
 have e1 : (if c = 0 then A else A.map (·.add (0 * 1))) = A := by
  split
  ·rfl
  ·cases A with
   | none => rfl
   | some a => simp [Addr.add]
 rw [e1] at this
 rw [List.length_take, Nat.min_eq_left hb]
 exact this
/-- x[a:]. -/
theorem or_tdrop {t e : TypeId} (T : ByteTy P t e) {x : Operand} {lo : Nat} {A : Option Addr} {c : Nat} {l : List UInt8} {ol : Operand} {k : IntKind} {i : Int} (a : Nat) (hx : ev L x = some (.slice A l.length c)) (hr : OwnT w lo e A c l)
  (hh : ev L ol = some (.int k i)) (hi : i = a) (ha : a ≤ l.length) : OpRun P ⟨d, .slice t x (some ol) none none, ty, pos, aft, gd⟩ L w fun v w' => w = w' ∧ ∃ A' c', v = .slice A' (l.drop a).length c' ∧ OwnT w lo e A' c' (l.drop a) ∧ blk A' = blk A := by
 subst hi
 have h1 := hr.1
 refine (ov_slice (d := d) (ty := ty) (pos := pos) (aft := aft) (gd := gd) (w := w) T (ol := some ol) (oh := none) (om := none) (a := a) (b := l.length) (m := c) hx (fun ρ hρ => by have := bounds_l (P := P) (w := w) (n := l.length) (c := c) hh (by omega) (by omega) ρ hρ; simpa using this)).mono ?_
 rintro v w' ⟨rfl, rfl⟩
 exact ⟨rfl, _, _, by rw [List.length_drop], hr.drop ha, blk_drop _ _ _⟩
/-- A row that is the old one, or new. -/
def Nx (w : World) (D D' : Option Nat) : Prop := ∀ x, D' = some x → D = some x ∨ w.heap.size ≤ x
theorem Nx.refl (w : World) (D : Option Nat) : Nx w D D := fun _ e => .inl e
theorem Nx.mono {w w' : World} {D D' : Option Nat} (h : Nx w' D D') (hs : w.heap.size ≤ w'.heap.size) : Nx w D D' := fun x e => (h x e).imp id fun h2 => Nat.le_trans hs h2
theorem Nx.tr {w w' : World} {D D' D2 : Option Nat} (h : Nx w D D') (k : Nx w' D' D2) (hs : w.heap.size ≤ w'.heap.size) : Nx w D D2 := fun x e => by
 rcases k x e with h2 | h2
 ·exact h x h2
 ·exact .inr (Nat.le_trans hs h2)
/-- What an append leaves. -/
def AppendedT (w : World) (lo : Nat) (e : TypeId) (A : Option Addr) (c : Nat) (l m : List UInt8) (v : Value) (w' : World) : Prop :=
 ∃ A' c', v = .slice A' (l ++ m).length c' ∧ OwnT w' lo e A' c' (l ++ m) ∧ Gr w w' (blk A) ∧ Nx w (blk A) (blk A') ∧ (l.length + m.length ≤ c → A' = A ∧ c' = c)
theorem run_append_tail {t ty e : TypeId} (T : ByteTy P t e) {lo : Nat} {A : Option Addr} {c : Nat} {l : List UInt8} (hown : OwnT w lo e A c l)
  {l2 h2 : Nat} {B : Option Addr} {c2 : Nat} {m : List UInt8} (hr : RdB w l2 h2 B c2 m) (hb : l.length + m.length ≤ 140737488355328) (hlo : lo ≤ w.heap.size) :
  ∃ v w', (Builtin.append_ #[t, t] ty #[.slice A l.length c, .slice B m.length c2]).run P w = .ok v w' ∧ AppendedT w lo e A c l m v w' := by
 obtain ⟨i, hi, hz, hs, hby⟩ := T.s.i
 have hnc := hown.1
 have hcm := hown.2.1
 have one : ∀ u ∈ m.map u8v, u.oneCell' = true := fun u hu => by obtain ⟨b, _, rfl⟩ := List.mem_map.1 hu; rfl
 rcases hown.2.2 with ⟨rfl, rfl⟩ | ⟨g, off, cur, rfl, hlo', hh, hsz, htk⟩
 ·have hl : l = [] := List.eq_nil_of_length_eq_zero (by omega)
  subst hl
  obtain ⟨v, w', hrun, A', c', rfl, ho, hg, hA⟩ := run_append_any (ty := ty) T.s (Own.nil_ w lo e 1) hr one (by rw [Nat.mul_one]; simpa using hb) (by simp only [maxLen]; simp at hb; omega) hlo
  refine ⟨_, w', hrun, A', c', by simp, by simpa [OwnB] using OwnT.of (l := m) (by simpa [OwnB] using ho), hg, ?_, fun h => ?_⟩
  ·intro x hx
   rcases hA with hA | hA
   ·rw [hA] at hx; cases hx
   ·rw [hA] at hx; cases hx; exact .inr (Nat.le_refl _)
  ·have hm : m = [] := List.eq_nil_of_length_eq_zero (by simp at h; exact List.length_eq_zero_iff.2 h)
   subst hm
   rcases ho.2 with ⟨hv, _⟩ | ⟨g, cap, cur, hv, hbb, hgg, hnc', hcm', hcs, ht⟩
   ·simp only [Value.slice.injEq] at hv; exact ⟨hv.1, hv.2.2⟩
   ·exfalso
    simp only [Value.slice.injEq] at hv
    obtain ⟨rfl, _, rfl⟩ := hv
    cases B with
    | none =>
     have := run_append_nil_src (P := P) (ty := ty) T.s.u hi (Own.nil_ w lo e 1) c2
     simp only [List.length_nil] at hrun
     rw [hrun] at this
     simp at this
    | some b =>
     have : (Builtin.append_ #[t, t] ty #[.slice none 0 0, .slice (some b) 0 c2]).run P w = .ok (.slice none 0 0) w := by
      simp [Builtin.append_, run_underlying T.s.u, sizeOf_run hi, Builtin.lenOf, Builtin.firstCells, loadCells, loadCellsFrom]
     simp only [List.length_nil] at hrun
     rw [hrun] at this
     simp at this
 ·by_cases hroom : l.length + m.length ≤ c
  ·have hw : ∃ w', (Builtin.append_ #[t, t] ty #[.slice (some ⟨g, off, none⟩) l.length c, .slice B m.length c2]).run P w = .ok (.slice (some ⟨g, off, none⟩) (l ++ m).length c) w' ∧
     OwnT w' lo e (some ⟨g, off, none⟩) c (l ++ m) ∧ Gr w w' (some g) := by
    cases B with
    | none =>
     have hm := RdB.nil_eq hr
     subst hm
     refine ⟨w, by simp [Builtin.append_, run_underlying T.s.u, sizeOf_run hi, Builtin.lenOf, Builtin.firstCells, hnc, storeCells], by simpa using hown, (ext_refl w).row _⟩
    | some a =>
     have hcl : ∀ j u, (m.map u8v)[j]? = some u → w.cell? (a.add j) = some u := by
      intro j u hu
      have hne : m.map u8v ≠ [] := fun e => by rw [e] at hu; cases hu
      obtain ⟨ad, ha, hc⟩ := Rd.cells hr hne
      cases ha
      exact hc j u hu
     have hfc := run_firstCells_some (P := P) w i.size m.length a m.length c2 (m.map u8v) (by rw [hs]; simp) hcl
     have hst := run_storeCells_at P g (off + l.length) e (m.map u8v) 0 cur w hh (by simp; omega) one
     simp only [Nat.add_zero, List.length_map] at hst
     refine ⟨w.setRow g (cur.toList.take (off + l.length) ++ m.map u8v ++ cur.toList.drop (off + l.length + m.length)).toArray, ?_, ⟨by simp; omega, hcm, .inr ⟨g, off, _, rfl, hlo', setRow_heap w g cur _ e _ hh, ?_, ?_⟩⟩, ⟨rfl, rfl, rfl, by simp, fun k _ hk => setRow_other w g k _ (fun e => hk (by simp [e]))⟩⟩
     ·simp [Builtin.append_, run_underlying T.s.u, sizeOf, typeInfo, hi, hs, Builtin.lenOf, hroom, Addr.add_lit]
      rw [hs] at hfc
      simp [hfc, hst]
     ·simp; omega
     ·have h1 : (cur.toList.take (off + l.length)).drop off = l.map u8v := by rw [List.drop_take, Nat.add_sub_cancel_left]; exact htk
      have h2 : off ≤ (cur.toList.take (off + l.length)).length := by simp; omega
      rw [List.append_assoc, List.drop_append_of_le_length h2, h1, ← List.append_assoc, List.take_left' (by simp), List.map_append]
   obtain ⟨w', h1, h2, h3⟩ := hw
   exact ⟨_, w', h1, _, _, rfl, h2, h3, Nx.refl _ _, fun _ => ⟨rfl, rfl⟩⟩
  ·cases B with
   | none =>
    have hm := RdB.nil_eq hr
    subst hm
    exact absurd (by simpa using hnc) hroom
   | some a =>
    have hm : m ≠ [] := fun e => hroom (by subst e; simpa using hnc)
    obtain ⟨ad, ha, hc⟩ := Rd.cells hr (by simpa using hm)
    cases ha
    have hold : ∀ j u, (l.map u8v)[j]? = some u → w.cell? ((⟨g, off, none⟩ : Addr).add j) = some u := by
     intro j u hu
     rw [Addr.add_lit, cell_of_row w g _ cur e (0, 0) hh]
     rw [← htk, List.getElem?_take] at hu
     split at hu
     ·rw [List.getElem?_drop] at hu
      rw [← hu, Array.getElem?_toList]
     ·cases hu
    obtain ⟨v', w', hrun, ho, hg⟩ := run_append_arg_grows (P := P) w t ty e i (.int .u8 0) 1 1 T.s.u hi hz hs hby T.s.zs T.s.sz ⟨g, off, none⟩ l.length c (l.map u8v) (by simp) hold a m.length c2 (m.map u8v) (by simp) hc (by omega) (by simp only [maxLen]; omega) (by omega)
    refine ⟨v', w', hrun, ?_⟩
    rcases ho.2 with ⟨rfl, h0⟩ | ⟨g', cap, cur', rfl, r⟩
    ·exfalso
     have : 0 < m.length := List.length_pos_iff.2 hm
     omega
    ·refine ⟨some ⟨g', 0, none⟩, cap, by simp, OwnT.mono (OwnT.of (l := l ++ m) ?_) hlo, Ext.row hg _, (fun x hx => by cases hx; exact .inr r.1), fun h => absurd h hroom⟩
     unfold OwnB
     rw [List.length_append, List.map_append]
     exact ho
/-- append to a slice of one's own. -/
theorem or_tappend {t e : TypeId} (T : ByteTy P t e) {s x : Operand} {lo : Nat} {A : Option Addr} {c : Nat} {l : List UInt8} (hs : ev L s = some (.slice A l.length c)) (hown : OwnT w lo e A c l)
  {l2 h2 : Nat} {B : Option Addr} {c2 : Nat} {m : List UInt8} (hx : ev L x = some (.slice B m.length c2)) (hr : RdB w l2 h2 B c2 m) (hb : l.length + m.length ≤ 140737488355328) (hlo : lo ≤ w.heap.size) :
  OpRun P ⟨d, .call ⟨.builtin .append, #[s, x], #[t, t]⟩, ty, pos, aft, gd⟩ L w (AppendedT w lo e A c l m) :=
 opRun_of fun ρ h1' _ => by
  obtain ⟨v, w', hrun, hp⟩ := run_append_tail (ty := ty) T hown hr hb hlo
  refine ⟨v, w', ?_, hp⟩
  simp [execOp, resolve, invoke, builtin, h1' s _ hs, h1' x _ hx, hrun]
/-- 'clear' behind the slice's own bytes. -/
theorem or_tclear {t e : TypeId} (T : ByteTy P t e) {x : Operand} {lo : Nat} {A : Option Addr} {c a n : Nat} {l : List UInt8} (hx : ev L x = some (.slice (if c = a then A else A.map (·.add (a * 1))) n (c - a))) (hown : OwnT w lo e A c l)
  (ha : l.length ≤ a) (hn : 0 < n) (hc : a + n ≤ c) :
  OpRun P ⟨d, .call ⟨.builtin .clear, #[x], #[t]⟩, ty, pos, aft, gd⟩ L w fun v w' => OwnT w' lo e A c l ∧ Gr w w' (blk A) :=
 opRun_of fun ρ h1' _ => by
  obtain ⟨i, hi, hz, hs, hby⟩ := T.s.i
  rw [if_neg (by omega)] at hx
  rcases hown.2.2 with ⟨rfl, rfl⟩ | ⟨g, off, cur, rfl, hlo', hh, hsz, htk⟩
  ·omega
  ·rw [Nat.mul_one, Option.map_some, Addr.add_lit] at hx
   have hzv : (zeroValue e).run P w = .ok (.int .u8 0) w := by simp [zeroValue, typeInfo, hi, hz]
   have hzc : (Builtin.zeroCells (Value.int .u8 0).cells n).toList = List.replicate n (.int .u8 0) := by
    simp [Builtin.zeroCells, Value.cells]
    apply List.ext_getElem
    ·simp
    ·intro i h1 h2
     simp [Nat.mod_one]
   have hst := run_storeCells_at P g (off + a) e (List.replicate n (.int .u8 0)) 0 cur w hh (by simp; omega) (fun u hu => by rw [List.eq_of_mem_replicate hu]; rfl)
   simp only [Nat.add_zero, List.length_replicate] at hst
   have hl := hown.1
   obtain ⟨m, rfl⟩ : ∃ m, n = m + 1 := ⟨n - 1, by omega⟩
   refine ⟨.tuple #[], w.setRow g (cur.toList.take (off + a) ++ List.replicate (m + 1) (Value.int .u8 0) ++ cur.toList.drop (off + a + (m + 1))).toArray, ?_, ⟨hown.1, hown.2.1, .inr ⟨g, off, _, rfl, hlo', setRow_heap w g cur _ e _ hh, ?_, ?_⟩⟩, ⟨rfl, rfl, rfl, by simp, fun k _ hk => setRow_other w g k _ (fun e => hk (by simp [blk, e]))⟩⟩
   ·simp [execOp, resolve, invoke, builtin, h1' x _ hx, Builtin.clear_, run_underlying T.s.u, hzv, hzc, hst]
   ·simp; omega
   ·have h2 : off ≤ (cur.toList.take (off + a)).length := by simp; omega
    rw [List.append_assoc, List.drop_append_of_le_length h2, List.drop_take, Nat.add_sub_cancel_left, List.take_append_of_le_length (by simp; omega), List.take_take, Nat.min_eq_left ha]
    exact htk
end
end Go.Proofs.YtiighkbehiddkaaGreat