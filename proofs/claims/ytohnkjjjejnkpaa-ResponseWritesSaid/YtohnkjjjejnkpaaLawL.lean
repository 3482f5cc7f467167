/-
  The row's law where package variables are laid; and a tuple of struct's strings with their sizes. Plain laws over any program. No condition.
-/
import Derived.Test.YtohnkjjjejnkpaaItems
import Derived.LaidMore
import Derived.OpenShut
import Derived.Stop.Joined
namespace Go.Proofs.Ytohnkjjjejnkpaa
open Go.ChangeShapes Go.WideShapes Go.ChangeAt Go.RowKit Go.Deep

section
variable {H : Type} {enc : TypeId × Value → H} {P : Program} {W W' : World}
/-- THE LAW, where variables are laid. -/
theorem law_lifted_laid {laid : List (String × DataW Unit)} {a : Assume} {C : Checked} {os : Os} {f : FuncId} {fn : Func} {s : ChangeSpec} {conds : List PathCond} {apart fresh handsOn again : Bool} {tb : TypeId}
    (own : ownKnob C.prog.godebug = none) (started : os.Started) (noInit : C.prog.inits.idxOf? f = none) (hfn : C.prog.funcs[f]? = some fn)
    (witness : ∃ (w : World) (tape : Tape) (i : Input), w.os = os ∧ (w.forCall tape i).Shaped C.prog ∧ i.vars = [] ∧ Input.okWide C.prog (w.forCall tape i) .any w.heap.size f i ∧
      ((s.pre enc C.prog fn conds apart (w.forCall tape i).memory i.args ∧ laidMetH C.prog laid (w.forCall tape i).memory) ∧ sizedMet enc C.prog fn (OpenSpec.ofChange s) apart (w.forCall tape i).memory i.args) ∧ a.holds C.prog (lone (Frame.enter C.prog f i.args .normal) [] (w.forCall tape i)))
    (hl : laidOutB C.prog = true) (hread : readsB C.prog fn.params.toList = true) (hres : fn.resultTypes = #[tb]) (htb : C.prog.underlying tb = some .bool) (hvars : s.vars = [])
    (hs : ∀ ds : List (DataW H), ds.length = fn.params.toList.length → s.fn H ds = { results := [.lit (.bool true)], args := ds })
    (walk : ∀ (W : World) (args : Array Value) (ds : List (DataW H)), laidMetH C.prog laid W → Comes enc C.prog W fn.params.toList args.toList ds → Fn C.prog f args W fun v w' => v = .bool true ∧ Ext W w') :
    ReturnsInHanded a C os f .any (fun w args => (s.pre enc C.prog fn conds apart w args ∧ laidMetH C.prog laid w) ∧ sizedMet enc C.prog fn (OpenSpec.ofChange s) apart w args) (s.post enc C.prog fn apart fresh handsOn again) := by
  refine returnsInHanded_of_change_and (X := fun w _ => laidMetH C.prog laid w) (fun _ _ _ hh h => h.of_heap hh) own started noInit hfn witness ?_
  intro W base args ds gs before hval hW hcnd hwt hL _
  have hW' := hW
  obtain ⟨p, q, hA, hV, _⟩ := hW
  rw [hvars] at hV
  have hgs : gs = [] := by
    cases gs with
    | nil => rfl
    | cons _ _ => exact hV.elim
  subst hgs
  have hlen : ∀ {ts : List TypeId} {vs : List Value} {ds : List (DataW H)} {ps : List MemPlace}, DataW.TrodAll enc C.prog W 0 (fun _ => true) true ts vs ds ps → ds.length = ts.length := by
    intro ts
    induction ts with
    | nil =>
      intro vs ds ps h
      cases vs with
      | nil => cases ds with
        | nil => rfl
        | cons _ _ => exact h.elim
      | cons _ _ => exact h.elim
    | cons t ts ih =>
      intro vs ds ps h
      cases vs with
      | nil => exact h.elim
      | cons v vs => cases ds with
        | nil => exact h.elim
        | cons d ds => obtain ⟨_, _, _, h2, _⟩ := h; simp [ih h2]
  refine Calls.mono (walk W args ds hL (comes_of (gs := []) (ts' := s.plain.varTypes C.prog) (fun j t v ht hv => ⟨base, hval j t v (by simpa using ht) (by simpa using hv)⟩) hA (by simpa using hwt))) ?_
  rintro e W1 ⟨v, rfl, rfl, hE⟩
  exact ⟨_, rfl, law_post hl hread hres htb hvars (by simpa using hs ds (hlen hA)) hW' hE⟩
end


/-! The arguments, opened, with their sizes. -/
section
variable {H : Type} {enc : TypeId × Value → H} {P : Program} {W : World}
def CRw (enc : TypeId × Value → H) (P : Program) (W : World) (t : TypeId) (cs : List Value) : Prop := ∃ fuel x, DataW.trod enc P W 0 (fun _ => true) true fuel t cs = some x ∧ ∀ n ∈ x.1.weights P t, n ≤ reachBytes
theorem CRw.cr {t : TypeId} {cs : List Value} (h : CRw enc P W t cs) : CR enc P W t cs := by obtain ⟨f, x, h, _⟩ := h; exact ⟨f, x, h⟩
theorem came_crw {t : TypeId} {v : Value} {d : DataW H} (h : Came enc P W t v d) : CRw enc P W t v.cells.toList := by
  obtain ⟨ps, b0, _, ⟨fuel, hd⟩, hw⟩ := h
  exact ⟨fuel, _, hd, hw⟩
theorem camew_struct {t : TypeId} {fs : Array Field} {v : Value} {d : DataW H} (ht : P.underlying t = some (.struct fs)) (h : Came enc P W t v d) : ∃ cs : List Value, v = .agg cs.toArray ∧ CRw enc P W t cs := by
  have hc := came_crw h
  obtain ⟨ps, b0, hv, _⟩ := h
  obtain ⟨cs, rfl, _⟩ := okWide_struct ht hv
  exact ⟨cs.toList, rfl, hc⟩
theorem crw_str {t : TypeId} {cs : List Value} (ht : P.underlying t = some .string) (h : CRw enc P W t cs) : ∃ l : List UInt8, cs = [.string (strB l)] ∧ l.length ≤ 140737488351232 := by
  obtain ⟨fuel, x, h, hw⟩ := h
  obtain ⟨s, e, rfl, hs⟩ := DataW.trod_string ht h
  refine ⟨s.data.toList, by rw [e], ?_⟩
  exact hw s.data.toList.length (by simp [DataW.weights])
theorem crw_struct {t : TypeId} {fs : Array Field} {cs : List Value} (ht : P.underlying t = some (.struct fs)) (h : CRw enc P W t cs) :
    cs.length = P.cellsOf t ∧ ∀ (i : Nat) (f : Field), fs[i]? = some f → CRw enc P W f.type ((cs.drop f.offset).take (P.cellsOf f.type)) := by
  obtain ⟨fuel, x, h, hw⟩ := h
  obtain ⟨xs, n, _, rfl, hl, hlen, hf⟩ := DataW.trod_struct ht h
  refine ⟨hl, fun i f hi => ?_⟩
  have hi' : i < xs.length := by rw [hlen]; exact (Array.getElem?_eq_some_iff.1 hi).1
  refine ⟨n, xs[i], by rw [hf i f hi, List.getElem?_eq_getElem hi'], fun m hm => hw m ?_⟩
  have h1 : (fs.toList.map (·.type))[i]? = some f.type := by rw [List.getElem?_map, Array.getElem?_toList, hi]; rfl
  have h2 : (xs.map (·.1))[i]? = some xs[i].1 := by rw [List.getElem?_map, List.getElem?_eq_getElem hi']; rfl
  have := DataW.weights_mem_each h1 h2 m hm
  simpa [DataW.weights, ht] using this
theorem weightsAll_mem {e : TypeId} : ∀ {l : List (DataW H)} {d : DataW H} {n : Nat}, d ∈ l → n ∈ d.weights P e → n ∈ DataW.weightsAll P e l
  | a :: r, d, n, hd, hn => by
    rw [DataW.weightsAll, List.mem_append]
    rcases List.mem_cons.1 hd with rfl | h
    · exact .inl hn
    · exact .inr (weightsAll_mem h hn)
theorem crw_bytes {t e : TypeId} {cs : List Value} (ht : P.underlying t = some (.slice e)) (he : P.underlying e = some (.int .u8)) (hc : P.cellsOf e = 1) (hb : P.bytesOf e = 1) (h : CRw enc P W t cs) : ∃ A c l, cs = [.slice A (List.length l) c] ∧ RdB W 0 W.heap.size A c l ∧ l.length ≤ 140737488351232 := by
  obtain ⟨A, c, l, hcs, hr⟩ := cr_bytes ht he hc h.cr
  refine ⟨A, c, l, hcs, hr, ?_⟩
  obtain ⟨fuel, x, h, hw⟩ := h
  rcases open_slice ht h with ⟨hcs2, _⟩ | ⟨a, len, cap, m, n, D, Pl, hcs2, _, hl, hm, hmm, rfl, hx⟩
  · rw [hcs] at hcs2
    simp only [List.cons.injEq, Value.slice.injEq, and_true] at hcs2
    omega
  · rw [hcs] at hcs2
    simp only [List.cons.injEq, Value.slice.injEq, and_true] at hcs2
    have h1 := hw (((List.range len).map D).length * 1 + ((List.range (m - len)).map fun j => D (len + j)).length * 1) (by simp [DataW.weights, ht, hb])
    have h2 : reachBytes = 140737488351232 := rfl
    simp only [List.length_map, List.length_range] at h1
    omega
theorem crw_strs {t e : TypeId} {cs : List Value} (ht : P.underlying t = some (.slice e)) (he : P.underlying e = some .string) (hc : P.cellsOf e = 1) (h : CRw enc P W t cs) :
    ∃ A c, ∃ xs : List (List UInt8), cs = [.slice A xs.length c] ∧ RdR W 0 W.heap.size 1 (fun s => [.string (strB s)]) A c xs ∧ ∀ s ∈ xs, s.length ≤ 140737488351232 := by
  obtain ⟨fuel, x, h, hw⟩ := h
  rcases open_slice ht h with ⟨hcs, _⟩ | ⟨a, len, cap, m, n, D, Pl, hcs, _, hl, hm, hmm, rfl, hx⟩
  · exact ⟨none, 0, [], hcs, Rd.nil _ _ _ _ _ _ (Nat.zero_le _), by simp⟩
  · have hle : len ≤ m := by rw [hmm]; split <;> omega
    obtain ⟨xs, hxl, hxs⟩ := list_of (p := fun i (y : List UInt8) => W.cell? (a.add i) = some (.string (strB y)) ∧ y.length ≤ 140737488351232) len (fun i hi => by
      obtain ⟨cs', h1, h2⟩ := hx i (by omega)
      obtain ⟨y, e1, hy⟩ := crw_str he ⟨n, _, h2, fun k hk => hw k (by
        have h3 : D i ∈ (List.range len).map D := List.mem_map.2 ⟨i, List.mem_range.2 hi, rfl⟩
        have := weightsAll_mem h3 hk
        simp only [DataW.weights, ht, List.mem_cons, List.mem_append]
        exact .inr (.inl this))⟩
      refine ⟨y, ?_, hy⟩
      rw [hc, Nat.mul_one] at h1
      have h4 := (World.cells?_some h1).2.2 0 (by omega)
      rw [addr_add_zero] at h4
      rw [h4, e1]; rfl)
    have hfl : ∀ ys : List (List UInt8), ys.flatMap (fun s => [Value.string (strB s)]) = ys.map fun s => Value.string (strB s) := fun ys => by
      induction ys with
      | nil => rfl
      | cons y r ih => rw [List.flatMap_cons, ih]; rfl
    refine ⟨some a, cap, xs, by rw [hxl]; exact hcs, ?_, fun s hs => by obtain ⟨i, hi⟩ := List.getElem?_of_mem hs; exact (hxs i s hi).2⟩
    refine ⟨by rw [hxl]; exact hl, hm, by rw [hfl, List.length_map, Nat.mul_one], fun hne => ⟨a, rfl, Nat.zero_le _, ?_, fun j u hu => ?_⟩⟩
    · have h0 : ∃ y, xs[0]? = some y := by
        cases xs with
        | nil => exact absurd rfl hne
        | cons y _ => exact ⟨y, rfl⟩
      obtain ⟨y, hy⟩ := h0
      have := World.block_lt_of_cell? W _ (hxs 0 y hy).1
      rw [addr_add_zero] at this
      exact this
    · rw [hfl, List.getElem?_map] at hu
      cases hx1 : xs[j]? with
      | none => rw [hx1] at hu; cases hu
      | some y => rw [hx1] at hu; cases hu; exact (hxs j y hx1).1
end

end Go.Proofs.Ytohnkjjjejnkpaa
