/-
 The row's law, once for all: a function whose contract says 'true, and what was there is as it was' answers a row 'it returns true; the input reads as it did'. And the arguments, opened. Plain laws over any program. No condition.
-/
import Derived.Test.YtiighkbehiddkaaGreatMake
import Derived.ProofKit
import Derived.SizedLaws
import Derived.Carry
namespace Go.Proofs.YtiighkbehiddkaaGreat
open Go.ChangeShapes Go.WideShapes Go.ChangeAt Go.RowKit
section
variable {H : Type} {enc : TypeId × Value → H} {P : Program} {W W' : World}
/-- Every type of the list can be read, wherever it leads. -/
def readsB (P : Program) (ts : List TypeId) : Bool := ts.all fun t => P.readableRec t && decide (t < P.types.size)
theorem trodAll_stays (hl : laidOutB P = true) (hb : Below W.heap.size W W') {sp : Nat → Bool} : ∀ {ts : List TypeId} {vs : List Value} {ds : List (DataW H)} {ps : List MemPlace},
  readsB P ts = true → (∀ x ∈ ps, x.block < W.heap.size) → (∀ x ∈ ps, sp x.block = true) → DataW.TrodAll enc P W 0 (fun _ => true) true ts vs ds ps → DataW.TrodAll enc P W' 0 sp true ts vs ds ps
 | [], [], [], _, _, _, _, h => h
 | [], [], _ :: _, _, _, _, _, h => h.elim
 | [], _ :: _, _, _, _, _, _, h => h.elim
 | _ :: _, [], _, _, _, _, _, h => h.elim
 | _ :: _, _ :: _, [], _, _, _, _, h => h.elim
 | t :: ts, v :: vs, d :: ds, ps, hr, hlt, hs, ⟨p, q, h1, h2, e⟩ => by
  subst e
  unfold readsB at hr
  simp only [List.all_cons, Bool.and_eq_true, decide_eq_true_eq] at hr
  exact ⟨p, q, WideElems.Trod_stays hl hr.1.1 hr.1.2 h1 (fun x hx => hb.same (hlt x (List.mem_append_left _ hx))) (fun x hx => hs x (List.mem_append_left _ hx)),
   trodAll_stays hl hb (by simpa [readsB] using hr.2) (fun x hx => hlt x (List.mem_append_right _ hx)) (fun x hx => hs x (List.mem_append_right _ hx)) h2, rfl⟩
theorem law_post {f : Func} {s : ChangeSpec} {apart fresh handsOn again : Bool} {args : Array Value} {ds gs : List (DataW H)} {before : List MemPlace} {tb : TypeId}
  (hl : laidOutB P = true) (hread : readsB P f.params.toList = true) (hres : f.resultTypes = #[tb]) (htb : P.underlying tb = some .bool) (hvars : s.vars = [])
  (hfn : s.fn H (ds ++ gs) = { results := [.lit (.bool true)], args := ds })
  (hW : DataW.Whole enc P f.params.toList s.vars apart W args.toList ds gs before) (hE : Ext W W') :
  s.post enc P f apart fresh handsOn again W args (.bool true) W' := by
 have hlt := hW.lt
 have hW' := hW
 obtain ⟨p, q, hA, hV, rfl, hfz, hnd⟩ := hW
 rw [hvars] at hV
 have hq : gs = [] ∧ q = [] := by
  cases gs with
  | nil => exact ⟨rfl, hV⟩
  | cons _ _ => exact hV.elim
 obtain ⟨rfl, rfl⟩ := hq
 have hb := hE.below
 have key : ∀ sp : Nat → Bool, (∀ x ∈ p ++ [], sp x.block = true) → DataW.TrodAll enc P W' 0 sp true f.params.toList args.toList ds p := fun sp hs =>
  trodAll_stays hl hb hread (fun x hx => hlt x (by simpa using hx)) (fun x hx => hs x (by simpa using hx)) hA
 have hone : (Value.bool true).resultList f.resultTypes.size = [.bool true] := by rw [hres]; rfl
 have hR : ∀ (b : Nat) (sp : Nat → Bool) (hd : Bool), DataW.TrodAll enc P W' b sp hd f.resultTypes.toList ((Value.bool true).resultList f.resultTypes.size) [.lit (.bool true)] [] := by
  intro b sp hd
  rw [hone, hres]
  exact ⟨[], [], shut_bool htb true, rfl, rfl⟩
 have hold : ∀ x ∈ p ++ [], (fun b => decide (b < W.heap.size)) x.block = true := fun x hx => by simpa using hlt x hx
 refine ⟨ds, [], p ++ [], [], p, [], hW', by rw [hfn]; exact hR _ _ _, by rw [hfn]; exact key _ hold, by rw [hfn, hvars]; exact rfl, hb.frame _, fun _ => ⟨?_, ?_⟩⟩
 ·exact ok_one hres rfl (okWide_bool_mk htb true)
 ·refine ⟨[.lit (.bool true)] ++ ds, [], ([] ++ p) ++ [], ⟨[] ++ p, [], trodAll_append (key _ fun _ _ => rfl) (hR _ _ _), by rw [hvars]; exact rfl, rfl, ?_, ?_⟩, ?_⟩
  ·intro b off hp
   have hp' : MemPlace.cell b off ∈ p ++ [] := by simpa using hp
   rw [hb.frozen (hlt _ hp')]
   exact hfz b off hp'
  ·intro ha
   simpa using hnd ha
  ·intro x hx _
   simpa using hx
/-- What is known of an argument. -/
def Came (enc : TypeId × Value → H) (P : Program) (W : World) (t : TypeId) (v : Value) (d : DataW H) : Prop :=
 ∃ ps b0, Value.okWide P W .any b0 t v ∧ DataW.Trod enc P W 0 (fun _ => true) true t v d ps ∧ ∀ n ∈ d.weights P t, n ≤ reachBytes
def Comes (enc : TypeId × Value → H) (P : Program) (W : World) : List TypeId → List Value → List (DataW H) → Prop
 | [], [], [] => True
 | t :: ts, v :: vs, d :: ds => Came enc P W t v d ∧ Comes enc P W ts vs ds
 | _, _, _ => False
theorem comes_of {P : Program} {W : World} : ∀ {ts ts' : List TypeId} {vs : List Value} {ds gs : List (DataW H)} {ps : List MemPlace},
  (∀ (j : Nat) t v, ts[j]? = some t → vs[j]? = some v → ∃ b0, Value.okWide P W .any b0 t v) → DataW.TrodAll enc P W 0 (fun _ => true) true ts vs ds ps →
  (DataW.weightsEach P (ts ++ ts') (ds ++ gs)).all (· ≤ reachBytes) = true → Comes enc P W ts vs ds
 | [], _, [], [], _, _, _, _, _ => trivial
 | [], _, [], _ :: _, _, _, _, h, _ => h.elim
 | [], _, _ :: _, _, _, _, _, h, _ => h.elim
 | _ :: _, _, [], _, _, _, _, h, _ => h.elim
 | _ :: _, _, _ :: _, [], _, _, _, h, _ => h.elim
 | t :: ts, ts', v :: vs, d :: ds, gs, ps, hv, ⟨p, q, h1, h2, e⟩, hw => by
  simp only [List.cons_append, DataW.weightsEach, List.all_append, Bool.and_eq_true, List.all_eq_true, decide_eq_true_eq] at hw
  obtain ⟨b0, hb⟩ := hv 0 t v rfl rfl
  exact ⟨⟨p, b0, hb, h1, hw.1⟩, comes_of (ts' := ts') (gs := gs) (fun j t' v' ht hv' => hv (j + 1) t' v' ht hv') h2 (by simpa [List.all_eq_true] using hw.2)⟩
/-- THE LAW. -/
theorem law_lifted {a : Assume} {C : Checked} {os : Os} {f : FuncId} {fn : Func} {s : ChangeSpec} {conds : List PathCond} {apart fresh handsOn again : Bool} {tb : TypeId}
  (own : ownKnob C.prog.godebug = none) (started : os.Started) (noInit : C.prog.inits.idxOf? f = none) (hfn : C.prog.funcs[f]? = some fn)
  (witness : ∃ (w : World) (tape : Tape) (i : Input), w.os = os ∧ (w.forCall tape i).Shaped C.prog ∧ i.vars = [] ∧ Input.okWide C.prog (w.forCall tape i) .any w.heap.size f i ∧
   s.pre6 enc C.prog fn conds apart (w.forCall tape i).memory i.args ∧ a.holds C.prog (lone (Frame.enter C.prog f i.args .normal) [] (w.forCall tape i)))
  (hl : laidOutB C.prog = true) (hread : readsB C.prog fn.params.toList = true) (hres : fn.resultTypes = #[tb]) (htb : C.prog.underlying tb = some .bool) (hvars : s.vars = [])
  (hs : ∀ ds : List (DataW H), ds.length = fn.params.toList.length → s.fn H ds = { results := [.lit (.bool true)], args := ds })
  (walk : ∀ (W : World) (args : Array Value) (ds : List (DataW H)), Comes enc C.prog W fn.params.toList args.toList ds → Fn C.prog f args W fun v w' => v = .bool true ∧ Ext W w') :
  ReturnsInHanded a C os f .any (s.pre6 enc C.prog fn conds apart) (s.post enc C.prog fn apart fresh handsOn again) := by
 refine returnsInHanded_of_change_sized own started noInit hfn witness ?_
 intro W base args ds gs before hval hW hcnd hwt _
 have hW' := hW
 obtain ⟨p, q, hA, hV, _⟩ := hW
 rw [hvars] at hV
 have hgs : gs = [] := by
  cases gs with
  | nil => rfl
  | cons _ _ => exact hV.elim
 subst hgs
 have hlen : ∀ {ts : List TypeId} {vs : List Value} {ds : List (DataW H)} {ps : List MemPlace}, DataW.TrodAll enc C.prog W 0 (fun _ => true) true ts vs ds ps → ds.length = ts.length := by
  intro ts
  induction ts with
  | nil =>
   intro vs ds ps h
   cases vs with
   | nil => cases ds with
    | nil => rfl
    | cons _ _ => exact h.elim
   | cons _ _ => exact h.elim
  | cons t ts ih =>
   intro vs ds ps h
   cases vs with
   | nil => exact h.elim
   | cons v vs => cases ds with
    | nil => exact h.elim
    | cons d ds => obtain ⟨_, _, _, h2, _⟩ := h; simp [ih h2]
 refine Calls.mono (walk W args ds (comes_of (gs := []) (ts' := s.plain.varTypes C.prog) (fun j t v ht hv => ⟨base, hval j t v (by simpa using ht) (by simpa using hv)⟩) hA (by simpa using hwt))) ?_
 rintro e W1 ⟨v, rfl, rfl, hE⟩
 exact ⟨_, rfl, law_post hl hread hres htb hvars (by simpa using hs ds (hlen hA)) hW' hE⟩
end
/-! The arguments, opened. -/
section
variable {H : Type} {enc : TypeId × Value → H} {P : Program} {W : World}
theorem comes_cons {t : TypeId} {ts : List TypeId} {vs : List Value} {ds : List (DataW H)} (h : Comes enc P W (t :: ts) vs ds) : ∃ v r d rs, vs = v :: r ∧ Came enc P W t v d ∧ Comes enc P W ts r rs := by
 cases vs with
 | nil => exact h.elim
 | cons v r => cases ds with
  | nil => exact h.elim
  | cons d rs => exact ⟨v, r, d, rs, rfl, h.1, h.2⟩
theorem comes_nil {vs : List Value} {ds : List (DataW H)} (h : Comes enc P W [] vs ds) : vs = [] := by
 cases vs with
 | nil => rfl
 | cons v r => exact h.elim
theorem comes3 {t0 t1 t2 : TypeId} {args : Array Value} {ds : List (DataW H)} (h : Comes enc P W [t0, t1, t2] args.toList ds) : ∃ v0 v1 v2 d0 d1 d2, args = #[v0, v1, v2] ∧ Came enc P W t0 v0 d0 ∧ Came enc P W t1 v1 d1 ∧ Came enc P W t2 v2 d2 := by
 obtain ⟨v0, r0, d0, rs0, e0, h0, h⟩ := comes_cons h
 obtain ⟨v1, r1, d1, rs1, rfl, h1, h⟩ := comes_cons h
 obtain ⟨v2, r2, d2, rs2, rfl, h2, h⟩ := comes_cons h
 have e := comes_nil h
 subst e
 exact ⟨v0, v1, v2, d0, d1, d2, Array.toList_inj.1 e0, h0, h1, h2⟩
/-- Cells of bytes. -/
def u8s (zs : List Int) : List UInt8 := zs.map fun z => UInt8.ofNat z.toNat
/-- A slice of bytes, out of its cell's reading. -/
theorem trod_bytes {t e : TypeId} {sp : Nat → Bool} (ht : P.underlying t = some (.slice e)) (he : P.underlying e = some (.int .u8)) (hc : P.cellsOf e = 1) {cs : List Value} {fuel : Nat} {x : DataW H × List MemPlace}
  (h : DataW.trod enc P W 0 sp true fuel t cs = some x) : ∃ A c l, cs = [.slice A (List.length l) c] ∧ RdB W 0 W.heap.size A c l := by
 rcases open_ints ht he hc h with ⟨hcs, _⟩ | ⟨a, len, cap, zs, hcs, _, hl, hm, hz, _, hcell, hwf⟩
 ·exact ⟨none, 0, [], hcs, RdB.nil _ _ _⟩
 ·have hle : len ≤ zs.length := by rw [hz]; split <;> omega
  have hlen : (u8s (zs.take len)).length = len := by simp [u8s, Nat.min_eq_left hle]
  refine ⟨some a, cap, u8s (zs.take len), by rw [hlen]; exact hcs, ?_⟩
  refine Rd.top (lo := 0) (hi := W.heap.size) ?_ |>.mono (Nat.le_refl _) (Nat.le_refl _)
  refine ⟨by rw [hlen]; exact hl, hm, by simp [hlen], fun hne => ⟨a, rfl, Nat.zero_le _, ?_, ?_⟩⟩
  ·have h0 : 0 < len := by
    rcases Nat.eq_zero_or_pos len with h0 | h0
    ·subst h0; exact absurd (by simp [u8s]) hne
    ·exact h0
   have := World.block_lt_of_cell? W _ (hcell 0 (by omega))
   have hb : (a.add 0).block = a.block := by unfold Addr.add; split <;> rfl
   rw [hb] at this
   exact this
  ·intro j u hu
   have hj : j < len := by
    have := (List.getElem?_eq_some_iff.1 hu).1
    simpa [hlen] using this
   rw [hcell j (by omega)]
   have hw := hwf (zs.getD j 0) (by
    have : j < zs.length := by omega
    simp [List.getD, List.getElem?_eq_getElem this])
   rw [List.getElem?_map] at hu
   have hj' : j < zs.length := by omega
   have hz0 : 0 ≤ zs.getD j 0 ∧ zs.getD j 0 < 256 := by
    simp only [Lit.wf, IntKind.min, IntKind.max, IntKind.signed, IntKind.bits, Bool.and_eq_true] at hw
    have h2 := of_decide_eq_true hw.1
    have h3 := of_decide_eq_true hw.2
    constructor
    ·exact h2
    ·have : zs.getD j 0 ≤ 255 := h3
     omega
   have e1 : (u8s (zs.take len))[j]? = some (UInt8.ofNat (zs.getD j 0).toNat) := by
    simp [u8s, hj, List.getD, List.getElem?_eq_getElem hj']
   rw [e1] at hu
   simp only [Option.map_some, Option.some.injEq] at hu
   subst hu
   have h1 : (UInt8.ofNat (zs.getD j 0).toNat).toNat = (zs.getD j 0).toNat := by
    rw [UInt8.toNat_ofNat']
    omega
   show some (Value.int .u8 (zs.getD j 0)) = some (Value.int .u8 ((UInt8.ofNat (zs.getD j 0).toNat).toNat : Int))
   rw [h1, Int.toNat_of_nonneg hz0.1]
theorem came_bytes {t e : TypeId} {v : Value} {d : DataW H} (ht : P.underlying t = some (.slice e)) (he : P.underlying e = some (.int .u8)) (hc : P.cellsOf e = 1) (h : Came enc P W t v d) :
  ∃ A c l, v = .slice A (List.length l) c ∧ RdB W 0 W.heap.size A c l := by
 obtain ⟨ps, b0, hv, ⟨fuel, hd⟩, _⟩ := h
 obtain ⟨a, len, cap, rfl⟩ := okWide_slice ht hv
 obtain ⟨A, c, l, hcs, hr⟩ := trod_bytes ht he hc hd
 exact ⟨A, c, l, by simpa [Value.cells] using hcs, hr⟩
end
end Go.Proofs.YtiighkbehiddkaaGreat