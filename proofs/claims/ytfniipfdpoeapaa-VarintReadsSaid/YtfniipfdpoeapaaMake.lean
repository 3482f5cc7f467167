/-
  The walk's operations that make and write memory, and calls, over any program. Plain laws. No condition.
-/
import Derived.Test.YtfniipfdpoeapaaMem
namespace Go.Proofs.Ytfniipfdpoeapaa
open Go.RowKit

/-- A block known whole, not frozen. -/
def Blk (w : World) (g : Nat) (t : TypeId) (cs : List Value) : Prop := w.heap[g]? = some (.cells cs.toArray t (0, 0))

section
variable {w w' : World} {g : Nat} {t : TypeId} {cs : List Value}
theorem Blk.lt (h : Blk w g t cs) : g < w.heap.size := (Array.getElem?_eq_some_iff.1 h).1
theorem Blk.cell (h : Blk w g t cs) (i : Nat) : w.cell? ⟨g, i, none⟩ = cs[i]? := by rw [cell_of_row w g i _ t (0, 0) h]; simp
theorem Blk.frozen (h : Blk w g t cs) (i : Nat) : w.frozen? ⟨g, i, none⟩ = false := frozen_of_row w g i _ t h
theorem Blk.gr (h : Blk w g t cs) {row : Option Nat} (hg : Gr w w' row) (hr : row ≠ some g) : Blk w' g t cs := (hg.block g h.lt (fun e => hr e.symm)).trans h
theorem Blk.ext (h : Blk w g t cs) (hg : Ext w w') : Blk w' g t cs := h.gr hg (by simp)
theorem Blk.new (w : World) (t : TypeId) (cs : List Value) : Blk (w.alloc (.cells cs.toArray t)) w.heap.size t cs := heap_alloc_new w _
theorem Blk.set_ (h : Blk w g t cs) (i : Nat) (u : Value) : Blk (w.setCell ⟨g, i, none⟩ u) g t (cs.set i u) := by
  have := heap_setCell_same w g i cs.toArray t u h
  unfold Blk
  rw [this]; simp
theorem gr_setCell (w : World) (a : Addr) (u : Value) : Gr w (w.setCell a u) (some a.block) :=
  ⟨rfl, rfl, rfl, by simp, fun k _ hk => heap_setCell_other w a k u (fun e => hk (by simp [e]))⟩
end

/-- Bytes of one's own. -/
abbrev OwnB (w : World) (lo : Nat) (e : TypeId) (A : Option Addr) (c : Nat) (l : List UInt8) : Prop := w.ownsRow lo e 1 (.slice A l.length c) l.length (l.map u8v)
/-- Elements of one's own. -/
abbrev Own (w : World) (lo : Nat) (e : TypeId) (size : Nat) (A : Option Addr) (n c : Nat) (xs : List Value) : Prop := w.ownsRow lo e size (.slice A n c) n xs

section
variable {w w' : World} {lo : Nat} {e : TypeId} {size n c : Nat} {A : Option Addr} {xs : List Value} {l : List UInt8}
theorem ownBlock_slice : Value.ownBlock (.slice A n c) = blk A := by cases A <;> rfl
theorem Own.nil_ (w : World) (lo : Nat) (e : TypeId) (size : Nat) : Own w lo e size none 0 0 [] := World.ownsRow_nil w lo e size
theorem Own.gr (h : Own w lo e size A n c xs) {row : Option Nat} (hg : Gr w w' row) (hr : blk A = none ∨ blk A ≠ row) : Own w' lo e size A n c xs :=
  World.ownsRow.kept h hg (by rw [ownBlock_slice]; exact hr)
theorem Own.ext (h : Own w lo e size A n c xs) (hg : Ext w w') : Own w' lo e size A n c xs :=
  h.gr hg (by cases A <;> simp [blk])
theorem Own.lt (h : Own w lo e size A n c xs) {g : Nat} (hg : blk A = some g) : lo ≤ g ∧ g < w.heap.size := World.ownsRow.lt h g (by rw [ownBlock_slice]; exact hg)
theorem Own.rd (h : Own w lo e size A n c xs) : Rd w lo w.heap.size size A n c xs := Rd.of_own h
theorem OwnB.rd (h : OwnB w lo e A c l) : RdB w lo w.heap.size A c l := Rd.of_own h
theorem Own.mono {lo' : Nat} (h : Own w lo e size A n c xs) (hl : lo' ≤ lo) : Own w lo' e size A n c xs := by
  refine ⟨h.1, ?_⟩
  rcases h.2 with h2 | ⟨g, cap, cur, hv, hb, r⟩
  · exact .inl h2
  · exact .inr ⟨g, cap, cur, hv, by omega, r⟩
theorem Own.addr (h : Own w lo e size A n c xs) (hn : 0 < n) : ∃ g, A = some ⟨g, 0, none⟩ ∧ lo ≤ g ∧ g < w.heap.size := by
  rcases h.2 with ⟨_, h0⟩ | ⟨g, cap, cur, hv, hb, hg, _⟩
  · omega
  · simp only [Value.slice.injEq] at hv
    exact ⟨g, hv.1, hb, (Array.getElem?_eq_some_iff.1 hg).1⟩
end

/-! Making. -/
section
variable {P : Program} {L : Env} {w : World} {d : Option Nat} {ty : TypeId} {pos : String} {aft : Array Edge} {gd : Option (Nat × Bool)}

def zeroOf (P : Program) (t : TypeId) : Option Value := (P.info? t).bind (·.zero)
theorem zero_run {t : TypeId} {z : Value} (h : zeroOf P t = some z) : (zeroValue t).run P w = .ok z w := by
  unfold zeroOf at h
  cases hi : P.info? t with
  | none => simp [hi] at h
  | some i => simp [hi] at h; simp [zeroValue, typeInfo, hi, h]

/-- What a new variable leaves. -/
def Made (w : World) (t : TypeId) (cs : List Value) (v : Value) (w' : World) : Prop := ∃ g, v = .pointer (some ⟨g, 0, none⟩) ∧ Blk w' g t cs ∧ Ext w w' ∧ w.heap.size ≤ g ∧ g < w'.heap.size

theorem made_alloc (w : World) (t : TypeId) (cs : Array Value) : Made w t cs.toList (.pointer (some ⟨w.heap.size, 0, none⟩)) (w.alloc (.cells cs t)) :=
  ⟨w.heap.size, rfl, by have := Blk.new w t cs.toList; simpa using this, ext_alloc w _, Nat.le_refl _, by simp⟩

theorem or_alloc {t : TypeId} {z : Value} {cs : List Value} (hz : zeroOf P t = some z) (hc : z.cells.toList = cs) : OpRun P ⟨d, .alloc t, ty, pos, aft, gd⟩ L w (Made w t cs) :=
  opRun_of fun ρ h1 _ => by
    subst hc
    refine ⟨_, _, ?_, made_alloc w t z.cells⟩
    simp [execOp, Instr.alloc, zero_run hz, newVar, newRow]

theorem or_box {t : TypeId} {x : Operand} {v : Value} {cs : List Value} (hx : ev L x = some v) (hc : v.cells.toList = cs) : OpRun P ⟨d, .box t x, ty, pos, aft, gd⟩ L w (Made w t cs) :=
  opRun_of fun ρ h1 _ => by
    subst hc
    refine ⟨_, _, ?_, made_alloc w t v.cells⟩
    simp [execOp, Instr.box, h1 x _ hx, newVar, newRow]

def fieldOff (P : Program) (s : TypeId) (i : Nat) : Option Nat :=
  match P.underlying s with
  | some (.struct fs) => match fs[i]? with
    | some f => match P.info? f.type with
      | some inf => if inf.size = 0 then none else some f.offset
      | none => none
    | none => none
  | _ => none

theorem ov_fieldAddr {s : TypeId} {x : Operand} {i : Nat} {a : Addr} {off : Nat} (hf : fieldOff P s i = some off) (hx : ev L x = some (.pointer (some a))) : OpVal P ⟨d, .fieldAddr s x i, ty, pos, aft, gd⟩ L w (.pointer (some (a.add off))) :=
  opVal_of fun ρ h1 _ => by
    unfold fieldOff at hf
    split at hf
    · rename_i fs hu
      split at hf
      · rename_i f hfi
        split at hf
        · rename_i inf hi
          split at hf
          · cases hf
          · rename_i hne
            simp only [Option.some.injEq] at hf
            subst hf
            simp [execOp, h1 x _ hx, Instr.fieldAt, run_underlying hu, hfi, Instr.sureAddr, fieldPlace, sizeOf_run hi, hne]
        · cases hf
      · cases hf
    · cases hf
/-- The same at a block's head. -/
theorem ov_field0 {s : TypeId} {x : Operand} {i g o off : Nat} (hf : fieldOff P s i = some off) (hx : ev L x = some (.pointer (some ⟨g, o, none⟩))) : OpVal P ⟨d, .fieldAddr s x i, ty, pos, aft, gd⟩ L w (.pointer (some ⟨g, o + off, none⟩)) := by
  have := ov_fieldAddr (d := d) (ty := ty) (pos := pos) (aft := aft) (gd := gd) (w := w) hf hx
  rwa [Addr.add_lit] at this

def aggTy (P : Program) (t : TypeId) (n : Nat) : Bool := match P.underlying t with
  | some (.struct _) | some (.array _ _) => match P.info? t with | some i => i.size == n | none => false
  | _ => false

theorem aggTy_run {t : TypeId} {n : Nat} (h : aggTy P t n = true) : (isAgg t).run P w = .ok true w ∧ (sizeOf t).run P w = .ok n w := by
  unfold aggTy at h
  cases hu : P.underlying t with
  | none => simp [hu] at h
  | some td =>
    cases hi : P.info? t with
    | none => cases td <;> simp [hu, hi] at h
    | some i => cases td <;> simp [hu, hi] at h <;> (subst h; exact ⟨by simp [isAgg, run_underlying hu], sizeOf_run hi⟩)

/-- A struct read out of memory, cell by cell. -/
theorem ov_loadAgg {t : TypeId} {x : Operand} {p : Addr} {cs : List Value} {n : Nat} (ht : aggTy P t n = true) (hn : cs.length = n) (hx : ev L x = some (.pointer (some p))) (hc : ∀ j u, cs[j]? = some u → w.cell? (p.add j) = some u) : OpVal P ⟨d, .load t x, ty, pos, aft, gd⟩ L w (.agg cs.toArray) :=
  opVal_of fun ρ h1 _ => by
    subst hn
    obtain ⟨ha, hs⟩ := aggTy_run (w := w) ht
    simp [execOp, h1 x _ hx, Instr.loadAt, Instr.sureAddr, loadVar, ha, hs, run_loadCells_list w p cs hc]
theorem ov_loadBlk {t tb : TypeId} {x : Operand} {g : Nat} {cs : List Value} (ht : aggTy P t cs.length = true) (hx : ev L x = some (.pointer (some ⟨g, 0, none⟩))) (hb : Blk w g tb cs) : OpVal P ⟨d, .load t x, ty, pos, aft, gd⟩ L w (.agg cs.toArray) :=
  ov_loadAgg ht rfl hx fun j u hu => by rw [Addr.add_lit, Nat.zero_add, hb.cell]; exact hu
/-- One cell of a block. -/
theorem ov_loadAt {t tb : TypeId} {x : Operand} {g i : Nat} {cs : List Value} {v : Value} (ht : oneCellTy P t = true) (hx : ev L x = some (.pointer (some ⟨g, i, none⟩))) (hb : Blk w g tb cs) (hv : cs[i]? = some v) : OpVal P ⟨d, .load t x, ty, pos, aft, gd⟩ L w v :=
  ov_load ht hx (by rw [hb.cell]; exact hv)

/-- A store into one cell of a block. -/
theorem or_storeAt {t tb : TypeId} {x y : Operand} {g i : Nat} {cs cs' : List Value} {v : Value} (ht : (P.info? t).map (·.size) = some 1) (hx : ev L x = some (.pointer (some ⟨g, i, none⟩))) (hy : ev L y = some v) (h1v : v.oneCell' = true) (hb : Blk w g tb cs) (hi : Nat.blt i cs.length = true) (hcs : cs.set i v = cs') :
    OpRun P ⟨d, .store t x y, ty, pos, aft, gd⟩ L w fun _ w' => Blk w' g tb cs' ∧ Gr w w' (some g) :=
  opRun_skip fun ρ h1 _ => by
    have hi' : i < cs.length := Nat.le_of_ble_eq_true hi
    have hcell : w.cell? ⟨g, i, none⟩ = some cs[i] := by rw [hb.cell]; simp [hi']
    have hfr := hb.frozen i
    obtain ⟨inf, hinf, hsz⟩ := Option.map_eq_some_iff.1 ht
    refine ⟨w.setCell ⟨g, i, none⟩ v, ?_, by rw [← hcs]; exact hb.set_ i v, gr_setCell w ⟨g, i, none⟩ v⟩
    have hvc : v.cells = #[v] := by cases v <;> first | rfl | (simp [Value.oneCell'] at h1v)
    have hst := run_store P w ⟨g, i, none⟩ v .plain h1v
    rw [hcell] at hst
    simp only [hfr] at hst
    simp [execOp, h1 x _ hx, h1 y _ hy, Instr.storeAt, Instr.sureAddr, storeVar, sizeOf_run hinf, hsz, hvc, storeCells, Addr.add_zero', hst]

/-- A store of a whole struct into a block of its own size. -/
theorem or_storeBlk {t tb : TypeId} {x y : Operand} {g : Nat} {cs vs : List Value} (ht : (P.info? t).map (·.size) = some vs.length) (hx : ev L x = some (.pointer (some ⟨g, 0, none⟩))) (hy : ev L y = some (.agg vs.toArray)) (h1v : ∀ u ∈ vs, u.oneCell' = true) (hb : Blk w g tb cs) (hl : cs.length = vs.length) :
    OpRun P ⟨d, .store t x y, ty, pos, aft, gd⟩ L w fun _ w' => Blk w' g tb vs ∧ Gr w w' (some g) :=
  opRun_skip fun ρ h1 _ => by
    obtain ⟨inf, hinf, hsz⟩ := Option.map_eq_some_iff.1 ht
    have hst := run_storeCells_at P g 0 tb vs 0 cs.toArray w hb (by simp [hl]) h1v
    refine ⟨w.setRow g vs.toArray, ?_, setRow_heap w g cs.toArray _ tb _ hb, ⟨rfl, rfl, rfl, by simp, fun k _ hk => setRow_other w g k _ (fun e => hk (by simp [e]))⟩⟩
    have hd : cs.drop vs.length = [] := by rw [← hl]; simp
    simp only [Nat.zero_add, List.take_zero, List.nil_append, hd, List.append_nil] at hst
    simp [execOp, h1 x _ hx, h1 y _ hy, Instr.storeAt, Instr.sureAddr, storeVar, sizeOf_run hinf, hsz, Value.cells, hst]

/-! append. -/
theorem run_append_nil_src {t ty e : TypeId} {i : TypeInfo} (ht : P.underlying t = some (.slice e)) (hi : P.info? e = some i) {lo size : Nat} {A : Option Addr} {n c : Nat} {xs : List Value} (hown : Own w lo e size A n c xs) (k : Nat) :
    (Builtin.append_ #[t, t] ty #[.slice A n c, .slice none 0 k]).run P w = .ok (.slice A n c) w := by
  have hnc : n ≤ c := (Own.rd hown).1
  cases A with
  | none => simp [Builtin.append_, run_underlying ht, sizeOf_run hi, Builtin.lenOf, Builtin.firstCells, hnc]
  | some a => simp [Builtin.append_, run_underlying ht, sizeOf_run hi, Builtin.lenOf, Builtin.firstCells, hnc, storeCells]

/-- What an append leaves. -/
def Appended (w : World) (lo : Nat) (e : TypeId) (size : Nat) (A : Option Addr) (n : Nat) (xs : List Value) (v : Value) (w' : World) : Prop :=
  ∃ A' c', v = .slice A' n c' ∧ Own w' lo e size A' n c' xs ∧ Gr w w' (blk A) ∧ (blk A' = blk A ∨ blk A' = some w.heap.size)

theorem run_append_any {t ty e : TypeId} {size bytes : Nat} {z : Value} (T : SliceTy P t e size bytes z) {lo : Nat} {A : Option Addr} {n c : Nat} {xs : List Value} (hown : Own w lo e size A n c xs)
    {l2 h2 : Nat} {B : Option Addr} {m c2 : Nat} {ys : List Value} (hr : Rd w l2 h2 size B m c2 ys) (h1 : ∀ u ∈ ys, u.oneCell' = true) (hb : (n + m) * bytes ≤ 140737488355328) (h63 : n + m ≤ maxLen) (hlo : lo ≤ w.heap.size) :
    ∃ v w', (Builtin.append_ #[t, t] ty #[.slice A n c, .slice B m c2]).run P w = .ok v w' ∧ Appended w lo e size A (n + m) (xs ++ ys) v w' := by
  obtain ⟨i, hi, hz, hs, hby⟩ := T.i
  have fin : ∀ (v' : Value) (w' : World), w'.ownsRow lo e size v' (n + m) (xs ++ ys) → w.grownBy w' (Value.ownBlock (.slice A n c)) → (v'.ownBlock = Value.ownBlock (.slice A n c) ∨ v'.ownBlock = some w.heap.size) → Appended w lo e size A (n + m) (xs ++ ys) v' w' := by
    intro v' w' h1 h2 h3
    rw [ownBlock_slice] at h2 h3
    rcases h1.2 with ⟨rfl, h0⟩ | ⟨g, cap, cur, rfl, r⟩
    · rw [h0] at h1 ⊢
      exact ⟨none, 0, rfl, h1, h2, h3⟩
    · exact ⟨some ⟨g, 0, none⟩, cap, rfl, h1, h2, h3⟩
  by_cases hys : ys = []
  · subst hys
    have hm0 : m = 0 := by
      have h := hr.2.2.1
      rcases Nat.eq_zero_or_pos m with h0 | h0
      · exact h0
      · have := Nat.mul_pos h0 T.sz; simp at h; omega
    subst hm0
    cases B with
    | none => exact ⟨_, _, run_append_nil_src T.u hi hown c2, fin _ _ (by simpa using hown) (World.grownBy.refl w _) (.inl rfl)⟩
    | some a =>
      obtain ⟨v', w', hrun, h2, h3, _, h5⟩ := run_append_own_at (P := P) w lo t ty e i z size bytes T.u hi hz hs hby T.zs T.sz (.slice A n c) n xs hown a 0 c2 [] (by simp) (fun j u hu => by simp at hu) h1 h63 hb hlo
      exact ⟨v', w', hrun, fin _ _ h2 h3 h5⟩
  · obtain ⟨a, rfl, hc⟩ := Rd.cells hr hys
    obtain ⟨v', w', hrun, h2, h3, _, h5⟩ := run_append_own_at (P := P) w lo t ty e i z size bytes T.u hi hz hs hby T.zs T.sz (.slice A n c) n xs hown a m c2 ys hr.2.2.1 hc h1 h63 hb hlo
    exact ⟨v', w', hrun, fin _ _ h2 h3 h5⟩

theorem or_append {t e : TypeId} {size bytes : Nat} {z : Value} (T : SliceTy P t e size bytes z) {s x : Operand} {lo : Nat} {A : Option Addr} {n c : Nat} {xs : List Value} (hs : ev L s = some (.slice A n c)) (hown : Own w lo e size A n c xs)
    {l2 h2 : Nat} {B : Option Addr} {m c2 : Nat} {ys : List Value} (hx : ev L x = some (.slice B m c2)) (hr : Rd w l2 h2 size B m c2 ys) (h1 : ∀ u ∈ ys, u.oneCell' = true) (hb : (n + m) * bytes ≤ 140737488355328) (h63 : n + m ≤ maxLen) (hlo : lo ≤ w.heap.size) :
    OpRun P ⟨d, .call ⟨.builtin .append, #[s, x], #[t, t]⟩, ty, pos, aft, gd⟩ L w (Appended w lo e size A (n + m) (xs ++ ys)) :=
  opRun_of fun ρ h1' _ => by
    obtain ⟨v, w', hrun, hp⟩ := run_append_any (ty := ty) T hown hr h1 hb h63 hlo
    refine ⟨v, w', ?_, hp⟩
    simp [execOp, resolve, invoke, builtin, h1' s _ hs, h1' x _ hx, hrun]

/-- The same for bytes. -/
def AppendedB (w : World) (lo : Nat) (e : TypeId) (A : Option Addr) (l : List UInt8) (v : Value) (w' : World) : Prop :=
  ∃ A' c', v = .slice A' l.length c' ∧ OwnB w' lo e A' c' l ∧ Gr w w' (blk A) ∧ (blk A' = blk A ∨ blk A' = some w.heap.size)

theorem or_bappend {t e : TypeId} (T : ByteTy P t e) {s x : Operand} {lo : Nat} {A : Option Addr} {c : Nat} {l : List UInt8} (hs : ev L s = some (.slice A l.length c)) (hown : OwnB w lo e A c l)
    {l2 h2 : Nat} {B : Option Addr} {c2 : Nat} {m : List UInt8} (hx : ev L x = some (.slice B m.length c2)) (hr : RdB w l2 h2 B c2 m) (hb : l.length + m.length ≤ 140737488355328) (hlo : lo ≤ w.heap.size) :
    OpRun P ⟨d, .call ⟨.builtin .append, #[s, x], #[t, t]⟩, ty, pos, aft, gd⟩ L w (AppendedB w lo e A (l ++ m)) := by
  refine (or_append T.s hs hown hx hr (fun u hu => ?_) (by omega) (by simp only [maxLen]; omega) hlo).mono ?_
  · obtain ⟨b, _, rfl⟩ := List.mem_map.1 hu; rfl
  · rintro v w' ⟨A', c', rfl, h1, h2, h3⟩
    rw [← List.map_append] at h1
    refine ⟨A', c', by rw [List.length_append], ?_, h2, h3⟩
    unfold OwnB
    rw [List.length_append]
    exact h1

/-- Bytes appended to nil: a fresh row (or nil). -/
def FreshB (w : World) (e : TypeId) (l : List UInt8) (v : Value) (w' : World) : Prop := ∃ A c, v = .slice A l.length c ∧ OwnB w' w.heap.size e A c l ∧ Ext w w'

theorem or_bappend0 {t e : TypeId} (T : ByteTy P t e) {s x : Operand} (hs : ev L s = some (.slice none 0 0)) {l2 h2 : Nat} {B : Option Addr} {c2 : Nat} {m : List UInt8} (hx : ev L x = some (.slice B m.length c2)) (hr : RdB w l2 h2 B c2 m) (hb : m.length ≤ 140737488355328) :
    OpRun P ⟨d, .call ⟨.builtin .append, #[s, x], #[t, t]⟩, ty, pos, aft, gd⟩ L w (FreshB w e m) := by
  refine (or_bappend (l := []) T hs (Own.nil_ w w.heap.size e 1) hx hr (by simpa using hb) (Nat.le_refl _)).mono ?_
  rintro v w' ⟨A', c', rfl, h1, h2, h3⟩
  exact ⟨A', c', rfl, h1, h2⟩

/-! Elements of a row of one's own. -/
theorem own_apart {A : Option Addr} {row : Option Nat} (h : ∀ g, blk A = some g → ∀ g', row = some g' → g ≠ g') : blk A = none ∨ blk A ≠ row := by
  cases hA : blk A with
  | none => exact .inl rfl
  | some g => exact .inr fun e => h g hA g e.symm rfl
theorem ov_oindex {t e : TypeId} {bytes : Nat} {z : Value} (T : SliceTy P t e 1 bytes z) {x y : Operand} {g n c : Nat} {k : IntKind} {i : Int} {m : Nat} (hx : ev L x = some (.slice (some ⟨g, 0, none⟩) n c)) (hy : ev L y = some (.int k i)) (hi : i = (m : Int)) (h1' : m < n) :
    OpVal P ⟨d, .indexAddr t x y, ty, pos, aft, gd⟩ L w (.pointer (some ⟨g, m, none⟩)) := by
  subst hi
  have := or_indexAddr (d := d) (ty := ty) (pos := pos) (aft := aft) (gd := gd) (w := w) T hx hy (by omega) (by omega)
  rwa [Int.toNat_natCast, Nat.mul_one, Addr.add_lit, Nat.zero_add] at this
theorem OwnB.cellAt {lo : Nat} {e : TypeId} {g c : Nat} {l : List UInt8} (h : OwnB w lo e (some ⟨g, 0, none⟩) c l) {k : Nat} (hk : k < l.length) : w.cell? ⟨g, k, none⟩ = some (u8v (l.getD k 0)) := by
  have := World.ownsRow.cellAt h k (by omega)
  rw [this]; simp [List.getD, hk]
theorem OwnB.set_ {lo : Nat} {e : TypeId} {g c : Nat} {l : List UInt8} (h : OwnB w lo e (some ⟨g, 0, none⟩) c l) (k : Nat) (b : UInt8) : OwnB (w.setCell ⟨g, k, none⟩ (u8v b)) lo e (some ⟨g, 0, none⟩) c (l.set k b) := by
  have := (World.ownsRow.stored h k (u8v b)).1
  unfold OwnB
  rw [List.length_set, List.map_set]
  exact this
theorem or_storeOwn {t e : TypeId} {x y : Operand} {lo g k c : Nat} {l : List UInt8} {b : UInt8} (ht : (P.info? t).map (·.size) = some 1) (hx : ev L x = some (.pointer (some ⟨g, k, none⟩))) (hy : ev L y = some (u8v b)) (hown : OwnB w lo e (some ⟨g, 0, none⟩) c l) (hk : k < l.length) :
    OpRun P ⟨d, .store t x y, ty, pos, aft, gd⟩ L w fun _ w' => OwnB w' lo e (some ⟨g, 0, none⟩) c (l.set k b) ∧ Gr w w' (some g) :=
  opRun_skip fun ρ h1 _ => by
    have hcell := OwnB.cellAt hown hk
    have hfr := World.ownsRow.frozenAt hown k
    obtain ⟨inf, hinf, hsz⟩ := Option.map_eq_some_iff.1 ht
    refine ⟨w.setCell ⟨g, k, none⟩ (u8v b), ?_, OwnB.set_ hown k b, gr_setCell w ⟨g, k, none⟩ (u8v b)⟩
    have hst := run_store P w ⟨g, k, none⟩ (u8v b) .plain rfl
    rw [hcell] at hst
    simp only [hfr] at hst
    simp [execOp, h1 x _ hx, h1 y _ hy, Instr.storeAt, Instr.sureAddr, storeVar, sizeOf_run hinf, hsz, Value.cells, storeCells, Addr.add_zero', hst]
theorem wu8_succ (x : UInt8) : IntKind.u8.wrap ((x.toNat : Int) + 1) = ((x + 1).toNat : Int) := by
  simp only [IntKind.wrap, IntKind.signed, IntKind.bits]
  have := x.toNat_lt
  simp [UInt8.toNat_add]

/-! A literal slice. -/
theorem fill_one (vs : List Value) (h1 : ∀ u ∈ vs, u.oneCell' = true) : ∀ (k : Nat) (cur : Array Value), k + vs.length ≤ cur.size →
    Instr.fill (fun i => some (i * 1, 1)) cur ((vs.zipIdx k).map fun p => (p.2, p.1)) = some (cur.toList.take k ++ vs ++ cur.toList.drop (k + vs.length)).toArray := by
  induction vs with
  | nil => intro k cur hk; simp [Instr.fill]
  | cons v vs ih =>
    intro k cur hk
    have hv : v.cells = #[v] := by have := h1 v (by simp); cases v <;> first | rfl | (simp [Value.oneCell'] at this)
    simp only [List.length_cons] at hk
    simp only [List.zipIdx_cons, List.map_cons, Instr.fill, hv]
    rw [if_neg (by simp; omega)]
    have hf : (#[v] : Array Value).zipIdx.foldl (fun cs (c, j) => cs.setIfInBounds (k * 1 + j) c) cur = cur.setIfInBounds k v := by simp
    rw [hf, ih (fun u hu => h1 u (by simp [hu])) (k + 1) _ (by simp; omega)]
    have e := list_seg_step cur.toList k v vs (by simp; omega)
    simp only [Array.toList_setIfInBounds]
    rw [e]
    have e2 : k + (vs.length + 1) = k + 1 + vs.length := by omega
    simp [e2]

theorem or_buildSlice1 {t e : TypeId} {bytes : Nat} {z : Value} (T : SliceTy P t e 1 bytes z) {n : Nat} {parts : Array (Nat × Operand)} {os : List Operand} {vs : List Value} (hp : parts = ((os.zipIdx).map fun p => (p.2, p.1)).toArray) (hn : os.length = n) (hv : evs L os = some vs) (h1v : ∀ u ∈ vs, u.oneCell' = true) (hsz : n ≤ 16777216) :
    OpRun P ⟨d, .buildSlice t n parts, ty, pos, aft, gd⟩ L w fun v w' => ∃ g, v = .slice (some ⟨g, 0, none⟩) n n ∧ Blk w' g e vs ∧ Ext w w' ∧ w.heap.size ≤ g ∧ g < w'.heap.size ∧ vs.length = n :=
  opRun_of fun ρ h1 h2 => by
    obtain ⟨i, hi, hz, hs, hby⟩ := T.i
    have hmap := h2 os vs hv
    have hlen : vs.length = n := by rw [← hmap, List.length_map, hn]
    subst hp
    have hparts : (os.zipIdx).map ((fun (x : Nat × Operand) => (x.1, ρ x.2)) ∘ fun p => (p.2, p.1)) = (vs.zipIdx 0).map fun p => (p.2, p.1) := by
      rw [← hmap]
      simp [List.zipIdx_map]
    have hfill : ∀ cur : Array Value, cur.size = n → Instr.fill (fun i => some (i * 1, 1)) cur ((vs.zipIdx 0).map fun p => (p.2, p.1)) = some vs.toArray := by
      intro cur hc
      rw [fill_one vs h1v 0 cur (by omega)]
      simp only [List.take_zero, List.nil_append, Nat.zero_add]
      rw [List.drop_of_length_le (by simp; omega), List.append_nil]
    refine ⟨.slice (some ⟨w.heap.size, 0, none⟩) n n, w.alloc (.cells vs.toArray e), ?_, w.heap.size, rfl, Blk.new w e vs, ext_alloc w _, Nat.le_refl _, by simp, hlen⟩
    by_cases hn0 : n = 0
    · have hf := hfill #[] (by simp [hn0])
      simp only [execOp, Instr.buildSlice, Sem.run_bind, run_underlying T.u, Result.andThen_ok, sizeOf_run hi, hs]
      simp [hn0, hparts, Array.range_zero'] at hf ⊢
      simp [hf, newRow]
    · have hf := hfill ((Array.range n).map fun x => z.cells[x % z.cells.size]!) (by simp)
      have hle : ¬ (16777216 < n) := by omega
      simp only [execOp, Instr.buildSlice, Sem.run_bind, run_underlying T.u, Result.andThen_ok, sizeOf_run hi, hs]
      simp [hn0, hle, hparts, zeroValue, typeInfo, hi, hz] at hf ⊢
      simp [hf, newRow]

theorem or_buildBytes {t e : TypeId} (T : ByteTy P t e) {n : Nat} {parts : Array (Nat × Operand)} {os : List Operand} {l : List UInt8} (hp : parts = ((os.zipIdx).map fun p => (p.2, p.1)).toArray) (hn : os.length = n) (hv : evs L os = some (l.map u8v)) (hsz : n ≤ 16777216) :
    OpRun P ⟨d, .buildSlice t n parts, ty, pos, aft, gd⟩ L w (FreshB w e l) := by
  refine (or_buildSlice1 T.s hp hn hv (fun u hu => by obtain ⟨b, _, rfl⟩ := List.mem_map.1 hu; rfl) hsz).mono ?_
  rintro v w' ⟨g, rfl, hb, he, h1, h2, h3⟩
  have hl : l.length = n := by simpa using h3
  subst hl
  refine ⟨some ⟨g, 0, none⟩, l.length, rfl, ⟨by simp, .inr ⟨g, l.length, _, rfl, h1, hb, Nat.le_refl _, by simp only [maxLen]; omega, by simp, ?_⟩⟩, he⟩
  rw [List.take_of_length_le (by simp)]

/-- '[]byte("ab")' of a constant: the literal's row gets the run-time's mark. -/
theorem or_markBytes {t e : TypeId} (T : ByteTy P t e) {x : Operand} {lo : Nat} {A : Option Addr} {c : Nat} {l : List UInt8} (hx : ev L x = some (.slice A l.length c)) (hown : OwnB w lo e A c l) (hne : l ≠ []) :
    OpRun P ⟨d, .convert t t x, ty, pos, aft, gd⟩ L w fun v w' => v = .slice A l.length c ∧ RdB w' lo w'.heap.size A c l ∧ Gr w w' (blk A) :=
  opRun_of fun ρ h1 _ => by
    rcases hown.2 with ⟨hv, h0⟩ | ⟨g, cap, cur, hv, hb, hg, hnc, hcm, hcs, htk⟩
    · exact absurd (List.eq_nil_of_length_eq_zero h0) hne
    · simp only [Value.slice.injEq] at hv
      obtain ⟨rfl, _, rfl⟩ := hv
      have hsh : w.shape? g = some (e, cur.size) := by simp [World.shape?, hg]
      have hlt : g < w.heap.size := (Array.getElem?_eq_some_iff.1 hg).1
      have hheap : ∀ k, (w.freeze ⟨g, cur.size, none⟩ 1).heap[k]? = if g = k then some (.cells cur e (cur.size, cur.size + 1)) else w.heap[k]? := by
        intro k
        unfold World.freeze
        rw [if_neg (by decide)]
        show (w.heap.modify g _)[k]? = _
        rw [Array.getElem?_modify]
        by_cases hk : g = k
        · subst hk; simp [hg]
        · simp [hk]
      refine ⟨_, w.freeze ⟨g, cur.size, none⟩ 1, ?_, rfl, ?_, ?_⟩
      · simp [execOp, h1 x _ hx, convert, run_underlying T.s.u, run_underlying T.e, markStringish, hsh]
      · have hcell : ∀ p : Addr, (w.freeze ⟨g, cur.size, none⟩ 1).cell? p = w.cell? p := by
          intro p
          simp only [World.cell?, hheap]
          by_cases hp : g = p.block
          · subst hp
            simp [hg]
          · simp [hp]
        have hrd := OwnB.rd hown
        have hsz : (w.freeze ⟨g, cur.size, none⟩ 1).heap.size = w.heap.size := by simp [World.freeze]
        rw [hsz]
        exact hrd.keep fun p _ _ _ => hcell p
      · refine ⟨?_, ?_, ?_, ?_, fun k hk hne => ?_⟩
        · simp [World.freeze]
        · simp [World.freeze]
        · simp [World.freeze]
        · simp [World.freeze]
        · have : k ≠ g := fun e => hne (by simp [blk, e])
          rw [hheap, if_neg (Ne.symm this)]

/-- make([]byte, n). -/
theorem toList_madeCells_one' (z : Value) (n : Nat) : (madeCells #[z] n).toList = List.replicate n z := toList_madeCells_one z n
theorem or_makeBytes {t e : TypeId} (T : ByteTy P t e) {x y : Operand} {k : IntKind} {n : Nat} {i : Int} (hx : ev L x = some (.int k i)) (hy : ev L y = some (.int k i)) (hi : i = n) (hb : n ≤ 140737488355328) :
    OpRun P ⟨d, .makeSlice t x y, ty, pos, aft, gd⟩ L w (FreshB w e (List.replicate n 0)) :=
  opRun_of fun ρ h1 _ => by
    obtain ⟨inf, hi', hz, hs, hby⟩ := T.s.i
    subst hi
    obtain ⟨w', hr, hown, hg⟩ := run_make_full (P := P) w w.heap.size t e inf (.int .u8 0) 1 T.s.u hi' hz hs k k n (by rw [hby]; omega) (by simp only [maxLen]; omega) (Nat.le_refl _)
    refine ⟨_, w', ?_, some ⟨w.heap.size, 0, none⟩, n, by rw [List.length_replicate], ?_, hg⟩
    · simp [execOp, h1 x _ hx, h1 y _ hy, hr]
    · unfold OwnB
      rw [List.length_replicate, List.map_replicate]
      have : (madeCells (Value.int .u8 0).cells (n * 1)).toList = List.replicate n (u8v 0) := by rw [Nat.mul_one]; exact toList_madeCells_one _ n
      rw [this] at hown
      exact hown
/-- make([]byte, 0, n). -/
theorem or_makeBytes0 {t e : TypeId} (T : ByteTy P t e) {x y : Operand} {k k' : IntKind} {n : Nat} {i : Int} (hx : ev L x = some (.int k 0)) (hy : ev L y = some (.int k' i)) (hi : i = n) (hb : n ≤ 140737488355328) :
    OpRun P ⟨d, .makeSlice t x y, ty, pos, aft, gd⟩ L w (FreshB w e []) :=
  opRun_of fun ρ h1 _ => by
    obtain ⟨inf, hi', hz, hs, hby⟩ := T.s.i
    subst hi
    obtain ⟨w', hr, hown, hg⟩ := run_make_own (P := P) w w.heap.size t e inf (.int .u8 0) 1 T.s.u hi' hz hs k k' n (by rw [hby]; omega) (by simp only [maxLen]; omega) (Nat.le_refl _)
    refine ⟨_, w', ?_, some ⟨w.heap.size, 0, none⟩, n, rfl, hown, hg⟩
    simp [execOp, h1 x _ hx, h1 y _ hy, hr]

/-- '[]byte(s)' of a string. -/
theorem or_strBytes {s t e : TypeId} (T : ByteTy P t e) (hs : P.underlying s = some .string) {x : Operand} {l : List UInt8} (hx : ev L x = some (.string (strB l))) (hb : l.length ≤ maxLen) :
    OpRun P ⟨d, .convert s t x, ty, pos, aft, gd⟩ L w fun v w' => ∃ A c, v = .slice A l.length c ∧ RdB w' w.heap.size w'.heap.size A c l ∧ Ext w w' :=
  opRun_of fun ρ h1 _ => by
    have hr := Lib.run_convert_string_bytes (P := P) w s t e (strB l) hs T.s.u T.e
    have hsz : (strB l).size = l.length := by simp [ByteArray.size]
    refine ⟨.slice (some ⟨w.heap.size, 0, none⟩) l.length (grownCap w (strB l).size 0 e), Lib.bytesWorld w e (strB l), by simp only [execOp, h1 x _ hx, hr, Sem.run_bind, Result.andThen_ok, Sem.run_pure, hsz], some ⟨w.heap.size, 0, none⟩, _, rfl, ⟨?_, ?_, by simp, fun _ => ⟨_, rfl, Nat.le_refl _, ?_, fun j u hu => ?_⟩⟩, ⟨?_, ?_, ?_, ?_, fun k hk _ => Lib.bytesWorld_at_old w e (strB l) k hk⟩⟩
    · have := grownCap_ge w (strB l).size 0 e; simpa [ByteArray.size] using this
    · exact grownCap_le_maxLen w (strB l).size 0 e (by simpa [ByteArray.size] using hb)
    · rw [Lib.bytesWorld_size]; simp
    · have hj : j < l.length := by
        rcases Nat.lt_or_ge j l.length with h | h
        · exact h
        · rw [List.getElem?_eq_none (by simpa using h)] at hu; cases hu
      rw [Addr.add_lit, Nat.zero_add, Lib.bytesWorld_cell w e (strB l) j (by simpa [ByteArray.size] using hj)]
      simp [hj] at hu
      subst hu
      simp [List.getD, hj]
    · simp [Lib.bytesWorld, World.freeze, World.alloc, World.drew, -World.alloc_eq, -World.drew_eq]
    · simp [Lib.bytesWorld, World.freeze, World.alloc, World.drew, -World.alloc_eq, -World.drew_eq]
    · simp [Lib.bytesWorld, World.freeze, World.alloc, World.drew, -World.alloc_eq, -World.drew_eq]
    · rw [Lib.bytesWorld_size]; omega

/-! Calls. -/
def callable (P : Program) (f : FuncId) : Bool := match P.funcs[f]? with
  | some fn => !(fn.name == "runtime.NumGoroutine") && fn.body.isSome
  | none => false
theorem callFunc_enter {f : FuncId} (h : callable P f = true) (args : Array Value) : (callFunc f args).run P w = .ok (.enter f args) w := by
  unfold callable at h
  cases hf : P.funcs[f]? with
  | none => simp [hf] at h
  | some fn =>
    simp only [hf, Bool.and_eq_true, Bool.not_eq_true'] at h
    have hb : ¬ fn.body = none := by cases hb : fn.body <;> simp [hb] at h ⊢
    have hn : ¬ fn.name = "runtime.NumGoroutine" := by simpa using h.1
    simp [callFunc, hf, hn, hb]
theorem or_call {f : FuncId} {fo : Operand} {args : List Operand} {tys : Array TypeId} {first caps : Array Value} {vs : List Value} {Post : Value → World → Prop} (hcl : callable P f = true)
    (hfo : ev L fo = some (.func (.func f) first caps)) (ha : evs L args = some vs) (hc : Fn P f (first ++ vs.toArray ++ caps) w Post) :
    OpRun P ⟨d, .call ⟨.value fo, args.toArray, tys⟩, ty, pos, aft, gd⟩ L w Post := by
  intro a n K Q hA hk
  have hargs := hA.evals ha
  have hfv := hA.eval hfo
  have hrun : (execOp a.eval ⟨d, .call ⟨.value fo, args.toArray, tys⟩, ty, pos, aft, gd⟩).run P w = .ok (.enter f (first ++ vs.toArray ++ caps)) w := by
    simp [execOp, resolve, invoke, hfv, Deferred.ofValue, callFunc_enter hcl, hargs]
  unfold Oper.wp
  rw [hrun]
  simp only [Oper.upon]
  refine Calls.mono hc ?_
  rintro e w' ⟨v, rfl, hp⟩
  exact hk v w' hp

theorem or_call0 {f : FuncId} {fo : Operand} {args : List Operand} {tys : Array TypeId} {vs : List Value} {Post : Value → World → Prop} (hcl : callable P f = true)
    (hfo : ev L fo = some (.func (.func f) #[] #[])) (ha : evs L args = some vs) (hc : Fn P f vs.toArray w Post) :
    OpRun P ⟨d, .call ⟨.value fo, args.toArray, tys⟩, ty, pos, aft, gd⟩ L w Post :=
  or_call hcl hfo ha (by simpa using hc)
theorem ov_makeFunc {f : FuncId} {fi ca : List Operand} {vs us : List Value} (hf : evs L fi = some vs) (hc : evs L ca = some us) : OpVal P ⟨d, .makeFunc (.func f) fi.toArray ca.toArray, ty, pos, aft, gd⟩ L w (.func (.func f) vs.toArray us.toArray) :=
  opVal_of fun ρ h1 h2 => by simp [execOp, Instr.makeFunc, h2 fi vs hf, h2 ca us hc]

/-! A struct built of parts. -/
def placesOf (P : Program) (t : TypeId) : Option (List (Nat × Nat)) :=
  match P.underlying t with
  | some (.struct fs) => fs.toList.mapM fun f => (P.info? f.type).map fun i => (f.offset, i.size)
  | _ => none
def evp (L : Env) : List (Nat × Operand) → Option (List (Nat × Value))
  | [] => some []
  | (i, x) :: xs => match ev L x, evp L xs with
    | some v, some vs => some ((i, v) :: vs)
    | _, _ => none
theorem evp_spec {ρ : Operand → Value} (h1 : ∀ x v, ev L x = some v → ρ x = v) : ∀ (ps : List (Nat × Operand)) (pv : List (Nat × Value)), evp L ps = some pv → ps.map (fun (p : Nat × Operand) => (p.1, ρ p.2)) = pv
  | [], pv, h => by simp only [evp, Option.some.injEq] at h; subst h; rfl
  | (i, x) :: ps, pv, h => by
    simp only [evp] at h
    cases hx : ev L x with
    | none => simp [hx] at h
    | some v =>
      cases hy : evp L ps with
      | none => simp [hx, hy] at h
      | some ws =>
        simp only [hx, hy, Option.some.injEq] at h
        subst h
        simp [h1 x v hx, evp_spec h1 ps ws hy]

theorem places_run : ∀ (fs : List Field) (ps : List (Nat × Nat)), fs.mapM (fun f => (P.info? f.type).map fun i => (f.offset, i.size)) = some ps → ((fs.mapM fun f => (Functor.map (Prod.mk f.offset) (sizeOf f.type) : Sem (Nat × Nat)))).run P w = .ok ps w
  | [], ps, h => by
    simp at h; subst h; rfl
  | f :: fs, ps, h => by
    rw [List.mapM_cons] at h ⊢
    cases hi : P.info? f.type with
    | none => simp [hi] at h
    | some i =>
      simp only [hi, Option.map_some, Option.bind_eq_bind, Option.bind_some] at h
      cases hr : fs.mapM (fun f => (P.info? f.type).map fun i => (f.offset, i.size)) with
      | none => simp [hr] at h
      | some qs =>
        simp [hr] at h
        subst h
        simp [sizeOf_run hi, places_run fs qs hr]

theorem ov_build {t : TypeId} {parts : List (Nat × Operand)} {z : Value} {pl : List (Nat × Nat)} {pv : List (Nat × Value)} {cs : List Value} (hz : zeroOf P t = some z) (hp : placesOf P t = some pl) (hv : evp L parts = some pv) (hf : Instr.fill (fun i => pl[i]?) z.cells pv = some cs.toArray) :
    OpVal P ⟨d, .build t parts.toArray, ty, pos, aft, gd⟩ L w (.agg cs.toArray) :=
  opVal_of fun ρ h1 _ => by
    unfold placesOf at hp
    split at hp
    · rename_i fs hu
      have hm := places_run (P := P) (w := w) fs.toList pl hp
      have hpm := evp_spec h1 parts pv hv
      have hma : (fs.mapM fun f => (do pure (f.offset, ← sizeOf f.type) : Sem (Nat × Nat))).run P w = .ok pl.toArray w := by
        rw [Array.mapM_eq_mapM_toList]
        simp only [Sem.run_map, bind_pure_comp, hm, Result.andThen_ok]
      simp only [execOp, Instr.build, Sem.run_bind, zero_run hz, Result.andThen_ok, run_underlying hu, hma, List.map_toArray, hpm, List.getElem?_toArray, hf]
      rfl
    · cases hp
end

end Go.Proofs.Ytfniipfdpoeapaa
