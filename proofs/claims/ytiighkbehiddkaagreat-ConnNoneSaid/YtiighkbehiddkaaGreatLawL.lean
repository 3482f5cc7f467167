/-
 The row's law where package variables are laid; and a tuple of struct's strings with their sizes. Plain laws over any program. No condition.
-/
import Derived.Test.YtiighkbehiddkaaGreatItems
import Derived.LaidMore
import Derived.OpenShut
import Derived.Stop.Joined
namespace Go.Proofs.YtiighkbehiddkaaGreat
open Go.ChangeShapes Go.WideShapes Go.ChangeAt Go.RowKit Go.Deep
section
variable {H : Type} {enc : TypeId × Value → H} {P : Program} {W W' : World}
end
/-! The arguments, opened, with their sizes. -/
section
variable {H : Type} {enc : TypeId × Value → H} {P : Program} {W : World}
def CRw (enc : TypeId × Value → H) (P : Program) (W : World) (t : TypeId) (cs : List Value) : Prop := ∃ fuel x, DataW.trod enc P W 0 (fun _ => true) true fuel t cs = some x ∧ ∀ n ∈ x.1.weights P t, n ≤ reachBytes
theorem CRw.cr {t : TypeId} {cs : List Value} (h : CRw enc P W t cs) : CR enc P W t cs := by obtain ⟨f, x, h, _⟩ := h; exact ⟨f, x, h⟩
theorem came_crw {t : TypeId} {v : Value} {d : DataW H} (h : Came enc P W t v d) : CRw enc P W t v.cells.toList := by
 obtain ⟨ps, b0, _, ⟨fuel, hd⟩, hw⟩ := h
 exact ⟨fuel, _, hd, hw⟩
theorem camew_struct {t : TypeId} {fs : Array Field} {v : Value} {d : DataW H} (ht : P.underlying t = some (.struct fs)) (h : Came enc P W t v d) : ∃ cs : List Value, v = .agg cs.toArray ∧ CRw enc P W t cs := by
 have hc := came_crw h
 obtain ⟨ps, b0, hv, _⟩ := h
 obtain ⟨cs, rfl, _⟩ := okWide_struct ht hv
 exact ⟨cs.toList, rfl, hc⟩
theorem crw_struct {t : TypeId} {fs : Array Field} {cs : List Value} (ht : P.underlying t = some (.struct fs)) (h : CRw enc P W t cs) :
  cs.length = P.cellsOf t ∧ ∀ (i : Nat) (f : Field), fs[i]? = some f → CRw enc P W f.type ((cs.drop f.offset).take (P.cellsOf f.type)) := by
 obtain ⟨fuel, x, h, hw⟩ := h
 obtain ⟨xs, n, _, rfl, hl, hlen, hf⟩ := DataW.trod_struct ht h
 refine ⟨hl, fun i f hi => ?_⟩
 have hi' : i < xs.length := by rw [hlen]; exact (Array.getElem?_eq_some_iff.1 hi).1
 refine ⟨n, xs[i], by rw [hf i f hi, List.getElem?_eq_getElem hi'], fun m hm => hw m ?_⟩
 have h1 : (fs.toList.map (·.type))[i]? = some f.type := by rw [List.getElem?_map, Array.getElem?_toList, hi]; rfl
 have h2 : (xs.map (·.1))[i]? = some xs[i].1 := by rw [List.getElem?_map, List.getElem?_eq_getElem hi']; rfl
 have := DataW.weights_mem_each h1 h2 m hm
 simpa [DataW.weights, ht] using this
theorem weightsAll_mem {e : TypeId} : ∀ {l : List (DataW H)} {d : DataW H} {n : Nat}, d ∈ l → n ∈ d.weights P e → n ∈ DataW.weightsAll P e l
 | a :: r, d, n, hd, hn => by
  rw [DataW.weightsAll, List.mem_append]
  rcases List.mem_cons.1 hd with rfl | h
  ·exact .inl hn
  ·exact .inr (weightsAll_mem h hn)
theorem crw_bytes {t e : TypeId} {cs : List Value} (ht : P.underlying t = some (.slice e)) (he : P.underlying e = some (.int .u8)) (hc : P.cellsOf e = 1) (hb : P.bytesOf e = 1) (h : CRw enc P W t cs) : ∃ A c l, cs = [.slice A (List.length l) c] ∧ RdB W 0 W.heap.size A c l ∧ l.length ≤ 140737488351232 := by
 obtain ⟨A, c, l, hcs, hr⟩ := cr_bytes ht he hc h.cr
 refine ⟨A, c, l, hcs, hr, ?_⟩
 obtain ⟨fuel, x, h, hw⟩ := h
 rcases open_slice ht h with ⟨hcs2, _⟩ | ⟨a, len, cap, m, n, D, Pl, hcs2, _, hl, hm, hmm, rfl, hx⟩
 ·rw [hcs] at hcs2
  simp only [List.cons.injEq, Value.slice.injEq, and_true] at hcs2
  omega
 ·rw [hcs] at hcs2
  simp only [List.cons.injEq, Value.slice.injEq, and_true] at hcs2
  have h1 := hw (((List.range len).map D).length * 1 + ((List.range (m - len)).map fun j => D (len + j)).length * 1) (by simp [DataW.weights, ht, hb])
  have h2 : reachBytes = 140737488351232 := rfl
  simp only [List.length_map, List.length_range] at h1
  omega
end
end Go.Proofs.YtiighkbehiddkaaGreat