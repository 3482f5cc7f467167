/-
  Slices of elements of several cells, read as a list of things; and the reading of an argument's cells, opened field by field. Plain laws over any program. No condition.
-/
import Derived.Test.YtohnkjjjejnkpaaLaw
import Derived.Deep.Slices
namespace Go.Proofs.Ytohnkjjjejnkpaa
open Go.ChangeShapes Go.WideShapes Go.ChangeAt Go.RowKit Go.Deep

theorem addr_add_zero (a : Addr) : a.add 0 = a := by unfold Addr.add; simp

section
variable {α : Type} {P : Program} {w : World} {L : Env} {d : Option Nat} {ty : TypeId} {pos : String} {aft : Array Edge} {gd : Option (Nat × Bool)}

/-- The slice reads as the things xs, each of 'size' cells. -/
abbrev RdR (w : World) (lo hi size : Nat) (f : α → List Value) (A : Option Addr) (c : Nat) (xs : List α) : Prop := Rd w lo hi size A xs.length c (xs.flatMap f)

theorem flat_get {f : α → List Value} {size : Nat} : ∀ {xs : List α} (_ : ∀ x ∈ xs, (f x).length = size) {k j : Nat} {x : α} {u : Value}, xs[k]? = some x → (f x)[j]? = some u → (xs.flatMap f)[k * size + j]? = some u
  | [], _, k, j, x, u, h, _ => by simp at h
  | y :: r, hf, 0, j, x, u, h, hu => by
    simp only [List.getElem?_cons_zero, Option.some.injEq] at h
    subst h
    have hj := (List.getElem?_eq_some_iff.1 hu).1
    rw [List.flatMap_cons, Nat.zero_mul, Nat.zero_add, List.getElem?_append_left hj]
    exact hu
  | y :: r, hf, k + 1, j, x, u, h, hu => by
    have hy := hf y (List.mem_cons_self ..)
    rw [List.getElem?_cons_succ] at h
    have := flat_get (xs := r) (fun x hx => hf x (List.mem_cons_of_mem _ hx)) h hu
    rw [List.flatMap_cons, List.getElem?_append_right (by rw [hy, Nat.succ_mul]; omega), hy, show (k + 1) * size + j - size = k * size + j by rw [Nat.succ_mul]; omega]
    exact this

theorem RdR.at {lo hi size c : Nat} {f : α → List Value} {A : Option Addr} {xs : List α} (hr : RdR w lo hi size f A c xs) (hf : ∀ x ∈ xs, (f x).length = size) (hs : 0 < size) {k : Nat} {x : α} (hk : xs[k]? = some x) :
    ∃ ad, A = some ad ∧ lo ≤ ad.block ∧ ad.block < hi ∧ ∀ j u, (f x)[j]? = some u → w.cell? ((ad.add (k * size)).add j) = some u := by
  have hx := hf x (List.mem_of_getElem? hk)
  have hne : xs.flatMap f ≠ [] := by
    intro e
    have h0 : ∃ u, (f x)[0]? = some u := ⟨(f x)[0]'(by omega), List.getElem?_eq_getElem (by omega)⟩
    obtain ⟨u, hu⟩ := h0
    have := flat_get hf hk hu
    rw [e] at this
    simp at this
  obtain ⟨ad, e, a, b, hc⟩ := hr.2.2.2 hne
  refine ⟨ad, e, a, b, fun j u hu => ?_⟩
  rw [add_add']
  exact hc _ _ (flat_get hf hk hu)

/-- An element's address: the address is a letter, its cells are known. -/
theorem or_rindex {t e : TypeId} {size bytes : Nat} {z : Value} (T : SliceTy P t e size bytes z) {f : α → List Value} {x y : Operand} {lo hi : Nat} {A : Option Addr} {c : Nat} {xs : List α} {k : IntKind} {m : Nat} {a : α}
    (hx : ev L x = some (.slice A xs.length c)) (hy : ev L y = some (.int k (m : Int))) (hr : RdR w lo hi size f A c xs) (hf : ∀ x ∈ xs, (f x).length = size) (hm : xs[m]? = some a) :
    OpRun P ⟨d, .indexAddr t x y, ty, pos, aft, gd⟩ L w fun v w' => w = w' ∧ ∃ p, v = .pointer (some p) ∧ (∀ j u, (f a)[j]? = some u → w.cell? (p.add j) = some u) ∧ lo ≤ p.block ∧ p.block < hi := by
  have hk : m < xs.length := (List.getElem?_eq_some_iff.1 hm).1
  obtain ⟨ad, rfl, a1, b1, hc⟩ := RdR.at hr hf T.sz hm
  refine (or_indexAddr T hx hy (by omega) (by omega)).mono ?_
  rintro v w' ⟨rfl, rfl⟩
  rw [Int.toNat_natCast]
  have hb : (ad.add (m * size)).block = ad.block := by unfold Addr.add; split <;> rfl
  exact ⟨rfl, _, rfl, hc, by rw [hb]; exact a1, by rw [hb]; exact b1⟩

/-- A field of an element in a slice, read where it lies. -/
theorem or_fieldAt {s : TypeId} {x : Operand} {i : Nat} {p : Addr} {off : Nat} {cs : List Value} (hf : fieldOff P s i = some off) (hx : ev L x = some (.pointer (some p))) (hc : ∀ j u, cs[j]? = some u → w.cell? (p.add j) = some u) :
    OpRun P ⟨d, .fieldAddr s x i, ty, pos, aft, gd⟩ L w fun v w' => w = w' ∧ ∃ q, v = .pointer (some q) ∧ (∀ j u, (cs.drop off)[j]? = some u → w.cell? (q.add j) = some u) ∧ q.block = p.block := by
  refine (ov_fieldAddr hf hx).mono ?_
  rintro v w' ⟨rfl, rfl⟩
  refine ⟨rfl, _, rfl, fun j u hu => ?_, by unfold Addr.add; split <;> rfl⟩
  rw [add_add']
  rw [List.getElem?_drop] at hu
  exact hc _ u hu

theorem cell_zero {p : Addr} {cs : List Value} {u : Value} (hc : ∀ j u, cs[j]? = some u → w.cell? (p.add j) = some u) (h : cs[0]? = some u) : w.cell? p = some u := by
  have := hc 0 u h
  rwa [addr_add_zero] at this

theorem flat_cells {f : α → List Value} {size : Nat} : ∀ {xs : List α} {a : Addr} (_ : ∀ x ∈ xs, (f x).length = size) (_ : ∀ i x, xs[i]? = some x → ∀ j u, (f x)[j]? = some u → w.cell? ((a.add (i * size)).add j) = some u) {j : Nat} {u : Value},
    (xs.flatMap f)[j]? = some u → w.cell? (a.add j) = some u
  | [], _, _, _, j, u, h => by simp at h
  | y :: r, a, hf, hc, j, u, h => by
    have hy := hf y (List.mem_cons_self ..)
    rw [List.flatMap_cons] at h
    by_cases hj : j < (f y).length
    · rw [List.getElem?_append_left hj] at h
      have := hc 0 y rfl j u h
      rwa [Nat.zero_mul, addr_add_zero] at this
    · rw [List.getElem?_append_right (by omega)] at h
      have := flat_cells (xs := r) (a := a.add size) (fun x hx => hf x (List.mem_cons_of_mem _ hx)) (fun i x hx j u hu => by
        have := hc (i + 1) x (by simpa using hx) j u hu
        rw [Nat.succ_mul, Nat.add_comm, ← add_add'] at this
        exact this) h
      rw [add_add', hy, show size + (j - size) = j by omega] at this
      exact this
end

theorem Blk.rdR {w : World} {g : Nat} {t : TypeId} {vs : List Value} (h : Blk w g t vs) (hl : vs.length ≤ maxLen) : RdR w 0 w.heap.size 1 (fun v : Value => [v]) (some ⟨g, 0, none⟩) vs.length vs := by
  have e : vs.flatMap (fun v : Value => [v]) = vs := by induction vs with
    | nil => rfl
    | cons v r ih => simp
  refine ⟨Nat.le_refl _, hl, by rw [e, Nat.mul_one], fun _ => ⟨_, rfl, Nat.zero_le _, h.lt, fun j u hu => ?_⟩⟩
  rw [e] at hu
  have : (Addr.mk g 0 none).add j = ⟨g, j, none⟩ := by unfold Addr.add; split <;> simp_all
  rw [this, h.cell]
  exact hu

theorem Blk.rdF {w : World} {g n size : Nat} {t : TypeId} {cs : List Value} (h : Blk w g t cs) (hl : cs.length = n * size) (hn : n ≤ maxLen) : Rd w 0 w.heap.size size (some ⟨g, 0, none⟩) n n cs :=
  ⟨Nat.le_refl _, hn, hl, fun _ => ⟨_, rfl, Nat.zero_le _, h.lt, fun j u hu => by rw [Addr.add_lit, Nat.zero_add, h.cell]; exact hu⟩⟩
theorem Blk.rd1 {w : World} {g : Nat} {t : TypeId} {v : Value} (h : Blk w g t [v]) : Rd w 0 w.heap.size 1 (some ⟨g, 0, none⟩) 1 1 [v] := Blk.rdR (vs := [v]) h (by simp [maxLen])
theorem Rd.ones {w : World} {lo hi c n : Nat} {A : Option Addr} {vs : List Value} (h : Rd w lo hi 1 A n c vs) (hn : n = vs.length) : RdR w lo hi 1 (fun v : Value => [v]) A c vs := by
  have e : vs.flatMap (fun v : Value => [v]) = vs := by induction vs with
    | nil => rfl
    | cons v r ih => simp
  subst hn
  unfold RdR
  rw [e]
  exact h

/-! The arguments, opened. -/
section
variable {H : Type} {enc : TypeId × Value → H} {P : Program} {W : World}

/-- The cells read as a value of the type. -/
def CR (enc : TypeId × Value → H) (P : Program) (W : World) (t : TypeId) (cs : List Value) : Prop := ∃ fuel x, DataW.trod enc P W 0 (fun _ => true) true fuel t cs = some x

theorem came_cr {t : TypeId} {v : Value} {d : DataW H} (h : Came enc P W t v d) : CR enc P W t v.cells.toList := by
  obtain ⟨ps, b0, _, ⟨fuel, hd⟩, _⟩ := h
  exact ⟨fuel, _, hd⟩
theorem came_struct {t : TypeId} {fs : Array Field} {v : Value} {d : DataW H} (ht : P.underlying t = some (.struct fs)) (h : Came enc P W t v d) : ∃ cs : List Value, v = .agg cs.toArray ∧ CR enc P W t cs := by
  have hc := came_cr h
  obtain ⟨ps, b0, hv, _⟩ := h
  obtain ⟨cs, rfl, _⟩ := okWide_struct ht hv
  exact ⟨cs.toList, rfl, hc⟩
theorem came_slice {t e : TypeId} {v : Value} {d : DataW H} (ht : P.underlying t = some (.slice e)) (h : Came enc P W t v d) : ∃ A n c, v = .slice A n c ∧ CR enc P W t [.slice A n c] := by
  have hc := came_cr h
  obtain ⟨ps, b0, hv, _⟩ := h
  obtain ⟨A, n, c, rfl⟩ := okWide_slice ht hv
  exact ⟨A, n, c, rfl, hc⟩
theorem came_str {t : TypeId} {v : Value} {d : DataW H} (ht : P.underlying t = some .string) (h : Came enc P W t v d) : ∃ l : List UInt8, v = .string (strB l) ∧ l.length ≤ 9223372036854775807 := by
  obtain ⟨ps, b0, hv, ⟨fuel, hd⟩, _⟩ := h
  obtain ⟨s, rfl⟩ := okWide_string ht hv
  obtain ⟨s', h1, _, h2⟩ := DataW.trod_string ht hd
  simp [Value.cells] at h1
  subst h1
  exact ⟨s.data.toList, rfl, h2⟩

theorem cr_int {t : TypeId} {k : IntKind} {cs : List Value} (ht : P.underlying t = some (.int k)) (h : CR enc P W t cs) : ∃ n, cs = [.int k n] ∧ k.min ≤ n ∧ n ≤ k.max := by
  obtain ⟨fuel, x, h⟩ := h
  obtain ⟨n, e, _, hw⟩ := DataW.trod_int ht h
  simp only [Lit.wf, Bool.and_eq_true, decide_eq_true_eq] at hw
  exact ⟨n, e, hw.1, hw.2⟩
theorem cr_i64 {t : TypeId} {cs : List Value} (ht : P.underlying t = some (.int .i64)) (h : CR enc P W t cs) : ∃ n : Int, cs = [.int .i64 n] ∧ -9223372036854775808 ≤ n ∧ n ≤ 9223372036854775807 := by
  obtain ⟨n, e, h1, h2⟩ := cr_int ht h
  rw [show IntKind.i64.min = -9223372036854775808 by decide] at h1
  rw [show IntKind.i64.max = 9223372036854775807 by decide] at h2
  exact ⟨n, e, h1, h2⟩
theorem cr_u64 {t : TypeId} {cs : List Value} (ht : P.underlying t = some (.int .u64)) (h : CR enc P W t cs) : ∃ n : Nat, cs = [.int .u64 (n : Int)] ∧ n < 18446744073709551616 := by
  obtain ⟨n, e, h1, h2⟩ := cr_int ht h
  rw [show IntKind.u64.min = 0 by decide] at h1
  rw [show IntKind.u64.max = 18446744073709551615 by decide] at h2
  exact ⟨n.toNat, by rw [Int.toNat_of_nonneg h1]; exact e, by omega⟩
theorem cr_u8 {t : TypeId} {cs : List Value} (ht : P.underlying t = some (.int .u8)) (h : CR enc P W t cs) : ∃ n : Nat, cs = [.int .u8 (n : Int)] ∧ n < 256 := by
  obtain ⟨n, e, h1, h2⟩ := cr_int ht h
  rw [show IntKind.u8.min = 0 by decide] at h1
  rw [show IntKind.u8.max = 255 by decide] at h2
  exact ⟨n.toNat, by rw [Int.toNat_of_nonneg h1]; exact e, by omega⟩
theorem cr_byte {t : TypeId} {cs : List Value} (ht : P.underlying t = some (.int .u8)) (h : CR enc P W t cs) : ∃ x : UInt8, cs = [.int .u8 (x.toNat : Int)] := by
  obtain ⟨n, e, h1⟩ := cr_u8 ht h
  refine ⟨UInt8.ofNat n, ?_⟩
  rw [UInt8.toNat_ofNat', Nat.mod_eq_of_lt h1]
  exact e
theorem came_one {t : TypeId} {v : Value} {d : DataW H} {k : IntKind} (ht : P.underlying t = some (.int k)) (h : Came enc P W t v d) : CR enc P W t [v] := by
  have hc := came_cr h
  obtain ⟨n, rfl, _⟩ := came_int ht h
  exact hc
theorem came_i64 {t : TypeId} {v : Value} {d : DataW H} (ht : P.underlying t = some (.int .i64)) (h : Came enc P W t v d) : ∃ n : Int, v = .int .i64 n ∧ -9223372036854775808 ≤ n ∧ n ≤ 9223372036854775807 := by
  obtain ⟨n, e, h1, h2⟩ := cr_i64 ht (came_one ht h)
  exact ⟨n, by simpa using e, h1, h2⟩
theorem came_u64 {t : TypeId} {v : Value} {d : DataW H} (ht : P.underlying t = some (.int .u64)) (h : Came enc P W t v d) : ∃ n : Nat, v = .int .u64 (n : Int) ∧ n < 18446744073709551616 := by
  obtain ⟨n, e, h1⟩ := cr_u64 ht (came_one ht h)
  exact ⟨n, by simpa using e, h1⟩
theorem came_u8 {t : TypeId} {v : Value} {d : DataW H} (ht : P.underlying t = some (.int .u8)) (h : Came enc P W t v d) : ∃ n : Nat, v = .int .u8 (n : Int) ∧ n < 256 := by
  obtain ⟨n, e, h1⟩ := cr_u8 ht (came_one ht h)
  exact ⟨n, by simpa using e, h1⟩
theorem came_byte {t : TypeId} {v : Value} {d : DataW H} (ht : P.underlying t = some (.int .u8)) (h : Came enc P W t v d) : ∃ x : UInt8, v = .int .u8 (x.toNat : Int) := by
  obtain ⟨x, e⟩ := cr_byte ht (came_one ht h)
  exact ⟨x, by simpa using e⟩
theorem cr_str {t : TypeId} {cs : List Value} (ht : P.underlying t = some .string) (h : CR enc P W t cs) : ∃ l : List UInt8, cs = [.string (strB l)] ∧ l.length ≤ 9223372036854775807 := by
  obtain ⟨fuel, x, h⟩ := h
  obtain ⟨s, e, _, hs⟩ := DataW.trod_string ht h
  exact ⟨s.data.toList, by rw [e], hs⟩
theorem cr_bool {t : TypeId} {cs : List Value} (ht : P.underlying t = some .bool) (h : CR enc P W t cs) : ∃ b, cs = [.bool b] := by
  obtain ⟨fuel, x, h⟩ := h
  obtain ⟨b, e, _⟩ := DataW.trod_bool ht h
  exact ⟨b, e⟩
theorem cr_bytes {t e : TypeId} {cs : List Value} (ht : P.underlying t = some (.slice e)) (he : P.underlying e = some (.int .u8)) (hc : P.cellsOf e = 1) (h : CR enc P W t cs) : ∃ A c l, cs = [.slice A (List.length l) c] ∧ RdB W 0 W.heap.size A c l := by
  obtain ⟨fuel, x, h⟩ := h
  exact trod_bytes ht he hc h
theorem cr_struct {t : TypeId} {fs : Array Field} {cs : List Value} (ht : P.underlying t = some (.struct fs)) (h : CR enc P W t cs) :
    cs.length = P.cellsOf t ∧ ∀ (i : Nat) (f : Field), fs[i]? = some f → CR enc P W f.type ((cs.drop f.offset).take (P.cellsOf f.type)) := by
  obtain ⟨fuel, x, h⟩ := h
  obtain ⟨xs, n, _, _, hl, hlen, hf⟩ := DataW.trod_struct ht h
  refine ⟨hl, fun i f hi => ?_⟩
  have hi' : i < xs.length := by rw [hlen]; exact (Array.getElem?_eq_some_iff.1 hi).1
  exact ⟨n, xs[i], by rw [hf i f hi, List.getElem?_eq_getElem hi']⟩

theorem list_of {α : Type} {p : Nat → α → Prop} : ∀ n : Nat, (∀ i, i < n → ∃ a, p i a) → ∃ xs : List α, xs.length = n ∧ ∀ i x, xs[i]? = some x → p i x
  | 0, _ => ⟨[], rfl, fun i x h => by simp at h⟩
  | n + 1, h => by
    obtain ⟨xs, hl, hx⟩ := list_of n (fun i hi => h i (by omega))
    obtain ⟨a, ha⟩ := h n (by omega)
    refine ⟨xs ++ [a], by simp [hl], fun i x hi => ?_⟩
    by_cases hc : i < xs.length
    · rw [List.getElem?_append_left hc] at hi; exact hx i x hi
    · have hlt := (List.getElem?_eq_some_iff.1 hi).1
      simp at hlt
      have : i = n := by omega
      subst this
      rw [List.getElem?_append_right (by omega), hl] at hi
      simp at hi
      subst hi
      exact ha

theorem cr_rows {α : Type} {t e : TypeId} {size : Nat} {cs : List Value} (f : α → List Value) (Q : α → Prop) (ht : P.underlying t = some (.slice e)) (hc : P.cellsOf e = size) (hs : 0 < size)
    (hel : ∀ cs : List Value, CR enc P W e cs → ∃ a, cs = f a ∧ Q a) (h : CR enc P W t cs) :
    ∃ A c xs, cs = [.slice A (List.length xs) c] ∧ RdR W 0 W.heap.size size f A c xs ∧ (∀ x ∈ xs, (f x).length = size) ∧ ∀ x ∈ xs, Q x := by
  obtain ⟨fuel, x, h⟩ := h
  rcases open_slice ht h with ⟨hcs, _⟩ | ⟨a, len, cap, m, n, D, Pl, hcs, _, hl, hm, hmm, _, hx⟩
  · exact ⟨none, 0, [], hcs, Rd.nil _ _ _ _ _ _ (Nat.zero_le _), by simp, by simp⟩
  · have hle : len ≤ m := by rw [hmm]; split <;> omega
    obtain ⟨xs, hxl, hxs⟩ := list_of (p := fun i (y : α) => W.cells? 0 (a.add (i * P.cellsOf e)) (P.cellsOf e) = some (f y) ∧ Q y) len (fun i hi => by
      obtain ⟨cs', h1, h2⟩ := hx i (by omega)
      obtain ⟨y, e1, hy⟩ := hel cs' ⟨n, _, h2⟩
      exact ⟨y, e1 ▸ h1, hy⟩)
    rw [hc] at hxs
    have hfl : ∀ x ∈ xs, (f x).length = size := fun x hx => by
      obtain ⟨i, hi⟩ := List.getElem?_of_mem hx
      exact (World.cells?_some (hxs i x hi).1).2.1
    refine ⟨some a, cap, xs, by rw [hxl]; exact hcs, ?_, hfl, fun x hx => by
      obtain ⟨i, hi⟩ := List.getElem?_of_mem hx
      exact (hxs i x hi).2⟩
    have hcell : ∀ i x, xs[i]? = some x → ∀ j u, (f x)[j]? = some u → W.cell? ((a.add (i * size)).add j) = some u := fun i x hi j u hu => by
      have hj := (List.getElem?_eq_some_iff.1 hu).1
      rw [hfl x (List.mem_of_getElem? hi)] at hj
      rw [(World.cells?_some (hxs i x hi).1).2.2 j hj]
      exact hu
    refine ⟨by rw [hxl]; exact hl, hm, ?_, fun hne => ⟨a, rfl, Nat.zero_le _, ?_, fun j u hu => flat_cells hfl hcell hu⟩⟩
    · have : ∀ ys : List α, (∀ x ∈ ys, (f x).length = size) → (ys.flatMap f).length = ys.length * size := by
        intro ys
        induction ys with
        | nil => simp
        | cons y r ih => intro h; rw [List.flatMap_cons, List.length_append, ih (fun x hx => h x (List.mem_cons_of_mem _ hx)), h y (List.mem_cons_self ..), List.length_cons, Nat.succ_mul, Nat.add_comm]
      exact this xs hfl
    · have h0 : ∃ y, xs[0]? = some y := by
        cases xs with
        | nil => exact absurd rfl hne
        | cons y _ => exact ⟨y, rfl⟩
      obtain ⟨y, hy⟩ := h0
      have hly := hfl y (List.mem_of_getElem? hy)
      have := World.block_lt_of_cell? W _ (hcell 0 y hy 0 ((f y)[0]'(by omega)) (List.getElem?_eq_getElem (by omega)))
      rw [Nat.zero_mul, addr_add_zero, addr_add_zero] at this
      exact this
end

end Go.Proofs.Ytohnkjjjejnkpaa
