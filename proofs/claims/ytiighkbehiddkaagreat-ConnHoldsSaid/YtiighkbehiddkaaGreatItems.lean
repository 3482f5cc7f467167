/-
 Slices of elements of several cells, read as a list of things; and the reading of an argument's cells, opened field by field. Plain laws over any program. No condition.
-/
import Derived.Test.YtiighkbehiddkaaGreatLaw
import Derived.Deep.Slices
namespace Go.Proofs.YtiighkbehiddkaaGreat
open Go.ChangeShapes Go.WideShapes Go.ChangeAt Go.RowKit Go.Deep
theorem addr_add_zero (a : Addr) : a.add 0 = a := by unfold Addr.add; simp
section
variable {α : Type} {P : Program} {w : World} {L : Env} {d : Option Nat} {ty : TypeId} {pos : String} {aft : Array Edge} {gd : Option (Nat × Bool)}
/-- The slice reads as the things xs, each of 'size' cells. -/
abbrev RdR (w : World) (lo hi size : Nat) (f : α → List Value) (A : Option Addr) (c : Nat) (xs : List α) : Prop := Rd w lo hi size A xs.length c (xs.flatMap f)
theorem flat_get {f : α → List Value} {size : Nat} : ∀ {xs : List α} (_ : ∀ x ∈ xs, (f x).length = size) {k j : Nat} {x : α} {u : Value}, xs[k]? = some x → (f x)[j]? = some u → (xs.flatMap f)[k * size + j]? = some u
 | [], _, k, j, x, u, h, _ => by simp at h
 | y :: r, hf, 0, j, x, u, h, hu => by
  simp only [List.getElem?_cons_zero, Option.some.injEq] at h
  subst h
  have hj := (List.getElem?_eq_some_iff.1 hu).1
  rw [List.flatMap_cons, Nat.zero_mul, Nat.zero_add, List.getElem?_append_left hj]
  exact hu
 | y :: r, hf, k + 1, j, x, u, h, hu => by
  have hy := hf y (List.mem_cons_self ..)
  rw [List.getElem?_cons_succ] at h
  have := flat_get (xs := r) (fun x hx => hf x (List.mem_cons_of_mem _ hx)) h hu
  rw [List.flatMap_cons, List.getElem?_append_right (by rw [hy, Nat.succ_mul]; omega), hy, show (k + 1) * size + j - size = k * size + j by rw [Nat.succ_mul]; omega]
  exact this
theorem RdR.at {lo hi size c : Nat} {f : α → List Value} {A : Option Addr} {xs : List α} (hr : RdR w lo hi size f A c xs) (hf : ∀ x ∈ xs, (f x).length = size) (hs : 0 < size) {k : Nat} {x : α} (hk : xs[k]? = some x) :
  ∃ ad, A = some ad ∧ lo ≤ ad.block ∧ ad.block < hi ∧ ∀ j u, (f x)[j]? = some u → w.cell? ((ad.add (k * size)).add j) = some u := by
 have hx := hf x (List.mem_of_getElem? hk)
 have hne : xs.flatMap f ≠ [] := by
  intro e
  have h0 : ∃ u, (f x)[0]? = some u := ⟨(f x)[0]'(by omega), List.getElem?_eq_getElem (by omega)⟩
  obtain ⟨u, hu⟩ := h0
  have := flat_get hf hk hu
  rw [e] at this
  simp at this
 obtain ⟨ad, e, a, b, hc⟩ := hr.2.2.2 hne
 refine ⟨ad, e, a, b, fun j u hu => ?_⟩
 rw [add_add']
 exact hc _ _ (flat_get hf hk hu)
/-- An element's address: the address is a letter, its cells are known. -/
theorem or_rindex {t e : TypeId} {size bytes : Nat} {z : Value} (T : SliceTy P t e size bytes z) {f : α → List Value} {x y : Operand} {lo hi : Nat} {A : Option Addr} {c : Nat} {xs : List α} {k : IntKind} {m : Nat} {a : α}
  (hx : ev L x = some (.slice A xs.length c)) (hy : ev L y = some (.int k (m : Int))) (hr : RdR w lo hi size f A c xs) (hf : ∀ x ∈ xs, (f x).length = size) (hm : xs[m]? = some a) :
  OpRun P ⟨d, .indexAddr t x y, ty, pos, aft, gd⟩ L w fun v w' => w = w' ∧ ∃ p, v = .pointer (some p) ∧ (∀ j u, (f a)[j]? = some u → w.cell? (p.add j) = some u) ∧ lo ≤ p.block ∧ p.block < hi := by
 have hk : m < xs.length := (List.getElem?_eq_some_iff.1 hm).1
 obtain ⟨ad, rfl, a1, b1, hc⟩ := RdR.at hr hf T.sz hm
 refine (or_indexAddr T hx hy (by omega) (by omega)).mono ?_
 rintro v w' ⟨rfl, rfl⟩
 rw [Int.toNat_natCast]
 have hb : (ad.add (m * size)).block = ad.block := by unfold Addr.add; split <;> rfl
 exact ⟨rfl, _, rfl, hc, by rw [hb]; exact a1, by rw [hb]; exact b1⟩
theorem cell_zero {p : Addr} {cs : List Value} {u : Value} (hc : ∀ j u, cs[j]? = some u → w.cell? (p.add j) = some u) (h : cs[0]? = some u) : w.cell? p = some u := by
 have := hc 0 u h
 rwa [addr_add_zero] at this
end
theorem Blk.rdR {w : World} {g : Nat} {t : TypeId} {vs : List Value} (h : Blk w g t vs) (hl : vs.length ≤ maxLen) : RdR w 0 w.heap.size 1 (fun v : Value => [v]) (some ⟨g, 0, none⟩) vs.length vs := by
 have e : vs.flatMap (fun v : Value => [v]) = vs := by induction vs with
  | nil => rfl
  | cons v r ih => simp
 refine ⟨Nat.le_refl _, hl, by rw [e, Nat.mul_one], fun _ => ⟨_, rfl, Nat.zero_le _, h.lt, fun j u hu => ?_⟩⟩
 rw [e] at hu
 have : (Addr.mk g 0 none).add j = ⟨g, j, none⟩ := by unfold Addr.add; split <;> simp_all
 rw [this, h.cell]
 exact hu
theorem Blk.rdF {w : World} {g n size : Nat} {t : TypeId} {cs : List Value} (h : Blk w g t cs) (hl : cs.length = n * size) (hn : n ≤ maxLen) : Rd w 0 w.heap.size size (some ⟨g, 0, none⟩) n n cs :=
 ⟨Nat.le_refl _, hn, hl, fun _ => ⟨_, rfl, Nat.zero_le _, h.lt, fun j u hu => by rw [Addr.add_lit, Nat.zero_add, h.cell]; exact hu⟩⟩
theorem Blk.rd1 {w : World} {g : Nat} {t : TypeId} {v : Value} (h : Blk w g t [v]) : Rd w 0 w.heap.size 1 (some ⟨g, 0, none⟩) 1 1 [v] := Blk.rdR (vs := [v]) h (by simp [maxLen])
/-! The arguments, opened. -/
section
variable {H : Type} {enc : TypeId × Value → H} {P : Program} {W : World}
/-- The cells read as a value of the type. -/
def CR (enc : TypeId × Value → H) (P : Program) (W : World) (t : TypeId) (cs : List Value) : Prop := ∃ fuel x, DataW.trod enc P W 0 (fun _ => true) true fuel t cs = some x
theorem came_cr {t : TypeId} {v : Value} {d : DataW H} (h : Came enc P W t v d) : CR enc P W t v.cells.toList := by
 obtain ⟨ps, b0, _, ⟨fuel, hd⟩, _⟩ := h
 exact ⟨fuel, _, hd⟩
theorem came_struct {t : TypeId} {fs : Array Field} {v : Value} {d : DataW H} (ht : P.underlying t = some (.struct fs)) (h : Came enc P W t v d) : ∃ cs : List Value, v = .agg cs.toArray ∧ CR enc P W t cs := by
 have hc := came_cr h
 obtain ⟨ps, b0, hv, _⟩ := h
 obtain ⟨cs, rfl, _⟩ := okWide_struct ht hv
 exact ⟨cs.toList, rfl, hc⟩
theorem cr_int {t : TypeId} {k : IntKind} {cs : List Value} (ht : P.underlying t = some (.int k)) (h : CR enc P W t cs) : ∃ n, cs = [.int k n] ∧ k.min ≤ n ∧ n ≤ k.max := by
 obtain ⟨fuel, x, h⟩ := h
 obtain ⟨n, e, _, hw⟩ := DataW.trod_int ht h
 simp only [Lit.wf, Bool.and_eq_true, decide_eq_true_eq] at hw
 exact ⟨n, e, hw.1, hw.2⟩
theorem cr_i64 {t : TypeId} {cs : List Value} (ht : P.underlying t = some (.int .i64)) (h : CR enc P W t cs) : ∃ n : Int, cs = [.int .i64 n] ∧ -9223372036854775808 ≤ n ∧ n ≤ 9223372036854775807 := by
 obtain ⟨n, e, h1, h2⟩ := cr_int ht h
 rw [show IntKind.i64.min = -9223372036854775808 by decide] at h1
 rw [show IntKind.i64.max = 9223372036854775807 by decide] at h2
 exact ⟨n, e, h1, h2⟩
theorem cr_struct {t : TypeId} {fs : Array Field} {cs : List Value} (ht : P.underlying t = some (.struct fs)) (h : CR enc P W t cs) :
  cs.length = P.cellsOf t ∧ ∀ (i : Nat) (f : Field), fs[i]? = some f → CR enc P W f.type ((cs.drop f.offset).take (P.cellsOf f.type)) := by
 obtain ⟨fuel, x, h⟩ := h
 obtain ⟨xs, n, _, _, hl, hlen, hf⟩ := DataW.trod_struct ht h
 refine ⟨hl, fun i f hi => ?_⟩
 have hi' : i < xs.length := by rw [hlen]; exact (Array.getElem?_eq_some_iff.1 hi).1
 exact ⟨n, xs[i], by rw [hf i f hi, List.getElem?_eq_getElem hi']⟩
end
end Go.Proofs.YtiighkbehiddkaaGreat