/-
 A region that draws its order of evaluation, walked by facts: each operation of its main part gets a fact on its slot that steps which only make memory keep; the operations behind the main part go one by one. Plain laws, over any program. No condition.
-/
import Derived.Test.YtiighkbehiddkaaGreatMake
namespace Go.Proofs.YtiighkbehiddkaaGreat
open Go.RowKit
set_option linter.unusedVariables false
abbrev Pred := Value → World → Prop
def depsOf (ops : Array Oper) (i : Nat) : List Nat := match ops[i]? with
 | some o => (o.after.toList.filter (Region.binds .any)).map (·.on)
 | none => []
/-- All that an operation waits for: its own edges and those of what it waits for. -/
def clo (D : Nat → List Nat) : Nat → List Nat → List Nat
 | 0, l => l
 | i + 1, l => clo D i (if l.contains i then l ++ D i else l)
def dstOf (ops : Array Oper) (i : Nat) : Option Nat := (ops[i]?).bind (·.dst)
/-- 'mu': the operations that may write memory that was there; 'fr': the facts that only steps keep that make memory; 'kept': the facts that hold at the end. -/
def mixOk (n : Nat) (ops : Array Oper) (s m : Nat) (ds : List Nat) (needs us ts : List (List Nat)) (es : List (Option Nat)) (kept : List Bool) (all : List Nat) (vk : List (Nat × Nat)) (vols : List (List Nat)) : Bool :=
 ((List.range m).all fun k => match es.getD k none with | some e => all.contains e | none => true) &&
 (vk.all fun e => Nat.blt e.1 m && (match dstOf ops e.1 with | some d => Nat.beq d e.2 | none => false)) &&
 ((List.range m).all fun i => Nat.blt i s || (vols.getD i []).all fun j => match vk[j]? with | some e => Nat.beq e.1 i || (clo (depsOf ops) e.1 (depsOf ops e.1)).contains i | none => true) &&
 ((List.range m).all fun i => Nat.blt i s || (List.range m).all fun k => Nat.blt k s || Nat.beq k i || (match es.getD k none with | some e => (ts.getD i []).contains e || (clo (depsOf ops) k (depsOf ops k)).contains i | none => true)) &&
 ((List.range m).all fun i => Nat.blt i s || (needs.getD i []).all fun j => (List.range m).all fun k => Nat.blt k s || (match es.getD k none with | some e => (us.getD j []).contains e || Nat.beq k j || Nat.beq k i || (clo (depsOf ops) j (depsOf ops j)).contains k || (clo (depsOf ops) k (depsOf ops k)).contains i | none => true)) &&
 ((List.range m).all fun j => bif Nat.blt j s then !kept.getD j false else (!kept.getD j false || ((List.range m).all fun k => Nat.blt k s || (match es.getD k none with | some e => (us.getD j []).contains e || Nat.beq k j || (clo (depsOf ops) j (depsOf ops j)).contains k | none => true)))) &&
 (Nat.ble m ops.size && Nat.ble s m) && Nat.beq ds.length m && Nat.beq needs.length m &&
 ((List.range ops.size).all fun i => (depsOf ops i).all fun j => Nat.blt j i) &&
 ((List.range m).all fun i => Nat.blt i s || match dstOf ops i, ds[i]? with | some d, some d' => Nat.beq d d' && Nat.blt d n | none, some d' => Nat.ble n d' || ((needs.getD i []).any fun j => match dstOf ops j with | some d => Nat.beq d d' | none => false) | _, _ => false) &&
 ((List.range ops.size).all fun t => Nat.blt t m || (let c := clo (depsOf ops) t (depsOf ops t); (List.range m).all fun j => Nat.blt j s || c.contains j)) &&
 ((List.range m).all fun i => Nat.blt i s || let c := clo (depsOf ops) i (depsOf ops i); (needs.getD i []).all fun j => c.contains j && Nat.blt j m && Nat.ble s j) &&
 ((List.range m).all fun i => Nat.blt i s || (List.range m).all fun j => Nat.blt j s || (dstOf ops i).isNone || (dstOf ops j).isNone || Nat.beq i j || !Nat.beq (ds.getD i 0) (ds.getD j 0))
/-- From t on the operations come one by one. -/
def tailOk (ops : Array Oper) (m : Nat) : Bool :=
 ((List.range ops.size).all fun i => (depsOf ops i).all fun j => Nat.blt j i) && Nat.ble m ops.size &&
 (List.range ops.size).all fun t => Nat.blt t m || (let c := clo (depsOf ops) t (depsOf ops t); (List.range t).all fun j => c.contains j)
theorem clo_sound (D : Nat → List Nat) (p : Nat → Prop) (hp : ∀ j, p j → ∀ k ∈ D j, p k) : ∀ (i : Nat) (l : List Nat), (∀ k ∈ l, p k) → ∀ x ∈ clo D i l, p x
 | 0, l, h, x, hx => h x hx
 | i + 1, l, h, x, hx => by
  simp only [clo] at hx
  refine clo_sound D p hp i _ ?_ x hx
  split
  ·rename_i hc
   intro k hk
   rcases List.mem_append.1 hk with hk | hk
   ·exact h k hk
   ·exact hp i (h i (by simpa using hc)) k hk
  ·exact h
def AllN (F : List (Nat × Pred)) (w : World) (K : Env → Prop) : List Nat → Env → Prop
 | [], L => K L
 | j :: js, L => match F[j]? with
  | some (d, φ) => ∀ v, φ v w → AllN F w K js ((d, v) :: L)
  | none => AllN F w K js L
/-- Slots that an operation of the region writes anew: their old values. -/
def VolN (Vs : List (Nat × Nat × Value)) (K : Env → Prop) : List Nat → Env → Prop
 | [], L => K L
 | j :: js, L => match Vs[j]? with
  | some (_, d, v) => VolN Vs K js ((d, v) :: L)
  | none => VolN Vs K js L
def AllF (w : World) (K : Env → Prop) : List (Nat × Pred) → List Bool → Env → Prop
 | [], _, L => K L
 | (d, φ) :: F, true :: ks, L => ∀ v, φ v w → AllF w K F ks ((d, v) :: L)
 | (d, _) :: F, _ :: ks, L => ∀ v, AllF w K F ks ((d, v) :: L)
 | (d, _) :: F, [], L => ∀ v, AllF w K F [] ((d, v) :: L)
def StbR (R : World → World → Prop) (φ : Pred) : Prop := ∀ v w w', φ v w → R w w' → φ v w'
abbrev Stb (φ : Pred) : Prop := StbR Ext φ
def AllStb (R : List Nat → World → World → Prop) : List (Nat × Pred) → List (List Nat) → Prop
 | [], _ => True
 | (_, φ) :: F, u :: us => (Stb φ ∧ ∀ e ∈ u, StbR (R [e]) φ) ∧ AllStb R F us
 | (_, φ) :: F, [] => (Stb φ ∧ ∀ e ∈ ([] : List Nat), StbR (R [e]) φ) ∧ AllStb R F []
theorem allStb_get {R : List Nat → World → World → Prop} : ∀ {F : List (Nat × Pred)} {us : List (List Nat)}, AllStb R F us → ∀ (i d : Nat) (φ : Pred), F[i]? = some (d, φ) → Stb φ ∧ ∀ e ∈ us.getD i [], StbR (R [e]) φ
 | [], _, _, i, d, φ, h => by simp at h
 | (d', φ') :: F, u :: us, hs, 0, d, φ, h => by simp at h; obtain ⟨rfl, rfl⟩ := h; simpa using hs.1
 | (d', φ') :: F, [], hs, 0, d, φ, h => by simp at h; obtain ⟨rfl, rfl⟩ := h; simpa using hs.1
 | (d', φ') :: F, [], hs, i + 1, d, φ, h => by simpa using allStb_get hs.2 i d φ (by simpa using h)
 | (d', φ') :: F, u :: us, hs, i + 1, d, φ, h => by simpa using allStb_get hs.2 i d φ (by simpa using h)
theorem stb0 {R : List Nat → World → World → Prop} {φ : Pred} (h : Stb φ) : Stb φ ∧ ∀ e ∈ ([] : List Nat), StbR (R [e]) φ := ⟨h, fun e he => by cases he⟩
theorem stbA {R : List Nat → World → World → Prop} {φ : Pred} (h : ∀ Q : World → World → Prop, StbR Q φ) (u : List Nat) : Stb φ ∧ ∀ e ∈ u, StbR (R [e]) φ := ⟨h _, fun e _ => h _⟩
/-- One relation for all labels. -/
def Fam (R : World → World → Prop) : List Nat → World → World → Prop
 | [] => Ext
 | _ :: _ => R
theorem fam1 {R : World → World → Prop} (hR1 : ∀ a b, Ext a b → R a b) : ∀ l a b, Ext a b → Fam R l a b
 | [], _, _, h => h
 | _ :: _, a, b, h => hR1 a b h
theorem stbB {R : World → World → Prop} {φ : Pred} {x : Nat} (hR1 : ∀ a b, Ext a b → R a b) (h : StbR R φ) : Stb φ ∧ ∀ e ∈ [x], StbR (Fam R [e]) φ := ⟨fun v w w' a b => h v w w' a (hR1 _ _ b), fun e _ => h⟩
theorem fam2 {R : World → World → Prop} (hR2 : ∀ a b c, R a b → R b c → R a c) : ∀ l e a b c, e ∈ l → Fam R l a b → Fam R [e] b c → Fam R l a c
 | [], _, _, _, _, h, _, _ => by cases h
 | _ :: _, _, a, b, c, _, h, k => hR2 a b c h k
theorem fam3 {R : World → World → Prop} (hR1 : ∀ a b, Ext a b → R a b) (hR2 : ∀ a b c, R a b → R b c → R a c) : ∀ l a b c, Fam R l a b → Ext b c → Fam R l a c
 | [], _, _, _, h, k => h.tr k
 | _ :: _, a, b, c, h, k => hR2 a b c h (hR1 b c k)
/-- What an operation leaves in its fact's slot; one without a slot leaves there what was there. -/
def slotVal (o : Oper) (d : Nat) (L : Env) (v : Value) : Value := match o.dst with
 | some _ => v
 | none => (L.get d).getD undef
/-- An operation with its guard. -/
def OpG (P : Program) (ops : Array Oper) (o : Oper) (L : Env) (w : World) (Post : Pred) : Prop :=
 ∀ (a : Act) (n : Nd) (K : Act → World → Prop) (Q : Exit → Act → World → Prop), Agree a n L → (∀ v w', Post v w' → K (a.put o.dst v) w') →
  if Region.wanted o (yielded ops a.tmps) then o.wp P a w K Q else K (a.put o.dst undef) w
section
variable {P : Program} {ops : Array Oper} {o : Oper} {L : Env} {w : World} {Post : Pred}
theorem og_plain (hg : o.guard = none) (h : OpRun P o L w Post) : OpG P ops o L w Post := fun a n K Q ha hk => by
 rw [if_pos (by simp [Region.wanted, hg])]; exact h a n K Q ha hk
theorem og_on {j dj : Nat} {b : Bool} (hg : o.guard = some (j, b)) (hj : (ops[j]?).bind (·.dst) = some dj) (hb : L.get dj = some (.bool b)) (h : OpRun P o L w Post) : OpG P ops o L w Post := fun a n K Q ha hk => by
 rw [if_pos (by simp [Region.wanted, hg, ha.yield hj hb])]; exact h a n K Q ha hk
theorem og_off {j dj : Nat} {b c : Bool} (hg : o.guard = some (j, b)) (hj : (ops[j]?).bind (·.dst) = some dj) (hb : L.get dj = some (.bool c)) (hne : c = !b) (h : Post undef w) : OpG P ops o L w Post := fun a n K Q ha hk => by
 rw [if_neg (by simp [Region.wanted, hg, ha.yield hj hb, hne])]; exact hk _ _ h
/-- What yields a known value and leaves the world. -/
theorem ox_val {c : Value} (h : OpVal P o L w c) : OpRun P o L w fun v w' => v = c ∧ Ext w w' := h.mono fun _ _ ⟨hv, hw⟩ => ⟨hv, by subst hw; exact ext_refl _⟩
end
theorem ox_spell {P : Program} {o : Oper} {L : Env} {w : World} {c c' : Value} (hc : c = c') (h : OpVal P o L w c) : OpRun P o L w fun v w' => v = c' ∧ Ext w w' := h.mono fun _ _ ⟨hv, hw⟩ => ⟨by rw [hv, hc], by subst hw; exact ext_refl _⟩
/-- What an operation does to the world: its label's relation. -/
def StepR (R : List Nat → World → World → Prop) : Option Nat → World → World → Prop
 | some e => R [e]
 | none => Ext
/-- The obligations, one for each operation of the main part. -/
def Obs (P : Program) (R : List Nat → World → World → Prop) (es : List (Option Nat)) (ts : List (List Nat)) (Vs : List (Nat × Nat × Value)) (vols : List (List Nat)) (ops : Array Oper) (L : Env) (w : World) (F : List (Nat × Pred)) (s : Nat) : Nat → List (List Nat) → Prop
 | _, [] => True
 | i, need :: rest => (bif Nat.blt i s then True else ∀ w', R (ts.getD i []) w w' → VolN Vs (AllN F w' (fun L' => match ops[i]?, F[i]? with
   | some o, some (d, φ) => OpG P ops o L' w' fun v w'' => φ (slotVal o d L' v) w'' ∧ StepR R (es.getD i none) w' w''
   | _, _ => False) need) (vols.getD i []) L) ∧ Obs P R es ts Vs vols ops L w F s (i + 1) rest
theorem obs_get {P : Program} {R : List Nat → World → World → Prop} {es : List (Option Nat)} {ts : List (List Nat)} {Vs : List (Nat × Nat × Value)} {vols : List (List Nat)} {ops : Array Oper} {L : Env} {w : World} {F : List (Nat × Pred)} {s : Nat} : ∀ (needs : List (List Nat)) (k i : Nat), Obs P R es ts Vs vols ops L w F s k needs → i < needs.length → s ≤ k + i → ∀ w', R (ts.getD (k + i) []) w w' → VolN Vs (AllN F w' (fun L' => match ops[k + i]?, F[k + i]? with
      | some o, some (d, φ) => OpG P ops o L' w' fun v w'' => φ (slotVal o d L' v) w'' ∧ StepR R (es.getD (k + i) none) w' w''
      | _, _ => False) (needs.getD i [])) (vols.getD (k + i) []) L
  | [], k, i, _, hi, _, _, _ => by simp at hi
  | need :: rest, k, 0, h, _, hsk, w', hw => by
    have hb : Nat.blt k s = false := by
      cases hb : Nat.blt k s with
      | false => rfl
      | true => have := Nat.le_of_ble_eq_true hb; omega
    have h1 := h.1
    rw [hb] at h1
    simpa using h1 w' hw
  | need :: rest, k, i + 1, h, hi, hsk, w', hw => by
    rw [show k + (i + 1) = k + 1 + i by omega] at hw hsk ⊢
    simpa using obs_get rest (k + 1) i h.2 (by simpa using hi) hsk w' hw
theorem obs_ext {P : Program} {Vs : List (Nat × Nat × Value)} {vols : List (List Nat)} {ops : Array Oper} {L : Env} {w w1 : World} {F : List (Nat × Pred)} {s : Nat} (h1 : Ext w w1) : ∀ (needs : List (List Nat)) (k : Nat), Obs P (fun _ => Ext) [] [] Vs vols ops L w F s k needs → Obs P (fun _ => Ext) [] [] Vs vols ops L w1 F s k needs
 | [], _, h => h
 | need :: rest, k, h => by
  refine ⟨?_, obs_ext h1 rest (k + 1) h.2⟩
  have h0 := h.1
  cases hb : Nat.blt k s with
  | true => exact trivial
  | false =>
   rw [hb] at h0
   intro w' hw
   exact h0 w' (h1.tr hw)
theorem vs_get {L0 : Env} : ∀ {Vs : List (Nat × Nat × Value)} {j k d : Nat} {v : Value}, L0.sub (Vs.map (·.2)) → Vs[j]? = some (k, d, v) → L0.get d = some v
 | [], _, _, _, _, _, h => by simp at h
 | (k', d', v') :: Vs, 0, k, d, v, hs, h => by
  simp only [List.getElem?_cons_zero, Option.some.injEq, Prod.mk.injEq] at h
  obtain ⟨_, rfl, rfl⟩ := h
  exact hs.1
 | (k', d', v') :: Vs, j + 1, k, d, v, hs, h => vs_get (Vs := Vs) hs.2 (by simpa using h)
theorem volN_use {Vs : List (Nat × Nat × Value)} {K : Env → Prop} {a : Act} {n : Nd} : ∀ (js : List Nat) (L : Env), VolN Vs K js L → Agree a n L → (∀ j ∈ js, ∀ (k d : Nat) (v : Value), Vs[j]? = some (k, d, v) → a.tmps.getD d undef = v) → ∃ L', K L' ∧ Agree a n L'
 | [], L, h, ha, _ => ⟨L, h, ha⟩
 | j :: js, L, h, ha, hf => by
  simp only [VolN] at h
  cases hj : Vs[j]? with
  | none => rw [hj] at h; exact volN_use js L h ha fun k hk => hf k (by simp [hk])
  | some p =>
   obtain ⟨k, d, v⟩ := p
   rw [hj] at h
   refine volN_use js _ h ⟨ha.size, ha.defers, fun i u hi => ?_⟩ fun k hk => hf k (by simp [hk])
   rw [Env.get_cons] at hi
   split at hi
   ·rename_i e; subst e; simp only [Option.some.injEq] at hi; subst hi; exact hf j (by simp) k d v hj
   ·exact ha.get i u hi
theorem allN_use {F : List (Nat × Pred)} {w : World} {K : Env → Prop} {a : Act} {n : Nd} : ∀ (js : List Nat) (L : Env), AllN F w K js L → Agree a n L → (∀ j ∈ js, ∀ (d : Nat) (φ : Pred), F[j]? = some (d, φ) → φ (a.tmps.getD d undef) w) →
  ∃ L', K L' ∧ Agree a n L' ∧ (∀ j ∈ js, ∀ (d : Nat) (φ : Pred), F[j]? = some (d, φ) → L'.get d = some (a.tmps.getD d undef)) ∧ ∀ d, L.get d = some (a.tmps.getD d undef) → L'.get d = some (a.tmps.getD d undef)
 | [], L, h, ha, _ => ⟨L, h, ha, fun j hj => by simp at hj, fun d hd => hd⟩
 | j :: js, L, h, ha, hf => by
  simp only [AllN] at h
  cases hj : F[j]? with
  | none =>
   rw [hj] at h
   obtain ⟨L', h1, h2, h3, h4⟩ := allN_use js L h ha fun k hk => hf k (by simp [hk])
   refine ⟨L', h1, h2, fun k hk d φ he => ?_, h4⟩
   rcases List.mem_cons.1 hk with e | hk
   ·subst e; rw [hj] at he; cases he
   ·exact h3 k hk d φ he
  | some p =>
   obtain ⟨d, φ⟩ := p
   rw [hj] at h
   obtain ⟨L', h1, h2, h3, h4⟩ := allN_use js _ (h _ (hf j (by simp) d φ hj)) ⟨ha.size, ha.defers, fun i v hi => by
    rw [Env.get_cons] at hi
    split at hi
    ·rename_i e; subst e; simpa using hi
    ·exact ha.get i v hi⟩ fun k hk => hf k (by simp [hk])
   refine ⟨L', h1, h2, fun k hk d' φ' he => ?_, fun d' hd' => h4 d' ?_⟩
   ·rcases List.mem_cons.1 hk with e | hk
    ·subst e
     rw [hj] at he
     simp only [Option.some.injEq, Prod.mk.injEq] at he
     obtain ⟨rfl, rfl⟩ := he
     exact h4 d (by rw [Env.get_cons, if_pos rfl])
    ·exact h3 k hk d' φ' he
   ·rw [Env.get_cons]
    split
    ·rename_i e; subst e; rfl
    ·exact hd'
theorem allF_imp {w : World} {K K' : Env → Prop} (h : ∀ L, K L → K' L) : ∀ (F : List (Nat × Pred)) (ks : List Bool) (L : Env), AllF w K F ks L → AllF w K' F ks L
 | [], _, L, hk => h L hk
 | (d, φ) :: F, [], L, hk => fun v => allF_imp h F [] _ (hk v)
 | (d, φ) :: F, true :: ks, L, hk => fun v hv => allF_imp h F ks _ (hk v hv)
 | (d, φ) :: F, false :: ks, L, hk => fun v => allF_imp h F ks _ (hk v)
theorem allF_use {w : World} {K : Env → Prop} {a : Act} {n : Nd} : ∀ (F : List (Nat × Pred)) (ks : List Bool) (L : Env), AllF w K F ks L → Agree a n L → (∀ (i d : Nat) (φ : Pred), F[i]? = some (d, φ) → ks.getD i false = true → φ (a.tmps.getD d undef) w) → ∃ L', K L' ∧ Agree a n L'
 | [], _, L, h, ha, _ => ⟨L, h, ha⟩
 | (d, φ) :: F, ks, L, h, ha, hf => by
  have hA : Agree a n ((d, a.tmps.getD d undef) :: L) := ⟨ha.size, ha.defers, fun i v hi => by
   rw [Env.get_cons] at hi
   split at hi
   ·rename_i e; subst e; simpa using hi
   ·exact ha.get i v hi⟩
  rcases ks with _ | ⟨_ | _, ks⟩
  ·exact allF_use F [] _ (h _) hA fun i d' φ' hi hk => by simp at hk
  ·exact allF_use F ks _ (h _) hA fun i d' φ' hi hk => hf (i + 1) d' φ' (by simpa using hi) (by simpa using hk)
  ·exact allF_use F ks _ (h _ (hf 0 d φ rfl rfl)) hA fun i d' φ' hi hk => hf (i + 1) d' φ' (by simpa using hi) (by simpa using hk)
theorem ready_mem {ops : Array Oper} {listed : Array Bool} {i : Nat} (hs : listed.size = ops.size) : i ∈ Region.ready .any ops listed ↔ i < ops.size ∧ listed.getD i false = false ∧ ∀ k ∈ depsOf ops i, listed.getD k false = true := by
 simp only [Region.ready, List.mem_filter, List.mem_range, Bool.and_eq_true, Bool.not_eq_true']
 constructor
 ·rintro ⟨hi, hl, hd⟩
  have hg : listed.getD i true = listed.getD i false := by simp [Array.getD_eq_getD_getElem?, Array.getElem?_eq_getElem (show i < listed.size by omega)]
  refine ⟨hi, by rw [← hg]; exact hl, fun k hk => ?_⟩
  simp only [depsOf, Array.getElem?_eq_getElem hi, List.mem_map, List.mem_filter] at hk
  obtain ⟨e, ⟨he, hb⟩, rfl⟩ := hk
  simp only [Array.getElem?_eq_getElem hi, Option.map_some, Option.getD_some, Array.all_eq_true'] at hd
  have := hd e (by simpa using he)
  simpa [hb] using this
 ·rintro ⟨hi, hl, hd⟩
  have hg : listed.getD i true = listed.getD i false := by simp [Array.getD_eq_getD_getElem?, Array.getElem?_eq_getElem (show i < listed.size by omega)]
  refine ⟨hi, by rw [hg]; exact hl, ?_⟩
  simp only [Array.getElem?_eq_getElem hi, Option.map_some, Option.getD_some, Array.all_eq_true']
  intro e he
  cases hb : Region.binds .any e with
  | false => simp
  | true =>
   have := hd e.on (by simp only [depsOf, Array.getElem?_eq_getElem hi, List.mem_map, List.mem_filter]; exact ⟨e, ⟨by simpa using he, hb⟩, rfl⟩)
   simp [this]
theorem getD_set (l : Array Bool) (i j : Nat) (hi : i < l.size) : (l.setIfInBounds i true).getD j false = if i = j then true else l.getD j false := by
 simp only [Array.getD_eq_getD_getElem?, Array.getElem?_setIfInBounds]
 split
 ·rename_i e; subst e; simp
 ·rfl
theorem countP_drop (l : List Nat) (hnd : l.Nodup) (p q : Nat → Bool) (i : Nat) (hi : i ∈ l) (hp : p i = true) (hq : q i = false) (hne : ∀ j, j ≠ i → q j = p j) : l.countP q + 1 = l.countP p := by
 induction l with
 | nil => simp at hi
 | cons x l ih =>
  rw [List.nodup_cons] at hnd
  by_cases hx : x = i
  ·subst hx
   have : l.countP q = l.countP p := List.countP_congr fun j hj => by rw [hne j (fun e => hnd.1 (e ▸ hj))]
   simp [hp, hq, this]
  ·have hi' : i ∈ l := by rcases List.mem_cons.1 hi with h | h; exact absurd h.symm hx; exact h
   have := ih hnd.2 hi'
   rw [List.countP_cons, List.countP_cons, hne x hx]
   omega
section
variable {P : Program} {ops : Array Oper} {Q : Exit → Act → World → Prop}
/-- The tail: one by one. -/
theorem tail_ok (hlt : ∀ i, i < ops.size → ∀ j ∈ depsOf ops i, j < i) (m : Nat) (hcl : ∀ t, m ≤ t → t < ops.size → ∀ j, j < t → j ∈ clo (depsOf ops) t (depsOf ops t)) :
  ∀ (k t fuel : Nat) (listed : Array Bool) (a : Act) (w : World), ops.size - t = k → m ≤ t → t ≤ ops.size → k ≤ fuel → listed.size = ops.size → (∀ j, j < ops.size → (listed.getD j false = true ↔ j < t)) →
   wpList P ops Q (ops.toList.drop t) a w → wpAny P .any ops Q fuel listed a w
 | 0, t, fuel, listed, a, w, hk, hm, ht, hf, hs, hl, h => by
  have e : t = ops.size := by omega
  subst e
  have hr : Region.ready .any ops listed = [] := by
   rcases hr : Region.ready .any ops listed with _ | ⟨i, r⟩
   ·rfl
   ·have := (ready_mem hs).1 (show i ∈ Region.ready .any ops listed by rw [hr]; simp)
    have h1 := (hl i this.1).2 this.1
    rw [this.2.1] at h1; cases h1
  have hq : Q .normal a w := by
   rw [List.drop_of_length_le (by simp)] at h; exact h
  cases fuel with
  | zero => exact ⟨hr, hq⟩
  | succ fuel => exact ⟨fun _ => hq, fun i hi => by rw [hr] at hi; simp at hi⟩
 | k + 1, t, fuel, listed, a, w, hk, hm, ht, hf, hs, hl, h => by
  have htl : t < ops.size := by omega
  obtain ⟨fuel, rfl⟩ : ∃ f, fuel = f + 1 := ⟨fuel - 1, by omega⟩
  have hdc : ∀ j, listed.getD j false = true → ∀ x ∈ depsOf ops j, listed.getD x false = true := by
   intro j hj x hx
   by_cases hjl : j < ops.size
   ·have h1 := (hl j hjl).1 hj
    have h2 := hlt j hjl x hx
    exact (hl x (by omega)).2 (by omega)
   ·have : depsOf ops j = [] := by simp [depsOf, Array.getElem?_eq_none (Nat.le_of_not_lt hjl)]
    rw [this] at hx; simp at hx
  have htr : t ∈ Region.ready .any ops listed := (ready_mem hs).2 ⟨htl, by
   cases hb : listed.getD t false with
   | false => rfl
   | true => exact absurd ((hl t htl).1 hb) (Nat.lt_irrefl _), fun x hx => by have := hlt t htl x hx; exact (hl x (by omega)).2 this⟩
  refine ⟨fun e => by rw [e] at htr; simp at htr, fun i hi => ?_⟩
  have hit : i = t := by
   have h1 := (ready_mem hs).1 hi
   rcases Nat.lt_trichotomy i t with hlt' | e | hgt
   ·have := (hl i h1.1).2 hlt'; rw [h1.2.1] at this; cases this
   ·exact e
   ·have hall := clo_sound (depsOf ops) (fun x => listed.getD x false = true) hdc i (depsOf ops i) h1.2.2 t (hcl i (by omega) h1.1 t hgt)
    have := (hl t htl).1 hall
    omega
  subst hit
  have hdrop : ops.toList.drop i = ops[i] :: ops.toList.drop (i + 1) := by
   rw [List.drop_eq_getElem_cons (by simpa using htl)]; simp
  rw [hdrop] at h
  have hnext : ∀ a' w', wpList P ops Q (ops.toList.drop (i + 1)) a' w' → wpAny P .any ops Q fuel (listed.setIfInBounds i true) a' w' := by
   intro a' w' h'
   refine tail_ok hlt m hcl k (i + 1) fuel _ a' w' (by omega) (by omega) (by omega) (by omega) (by simpa using hs) (fun j hj => ?_) h'
   rw [getD_set _ _ _ (by omega)]
   split
   ·rename_i e; subst e; simp
   ·rename_i hne; rw [hl j hj]; omega
  unfold wpOp
  simp only [Array.getElem?_eq_getElem htl]
  simp only [wpList] at h
  split at h
  ·rename_i hw; rw [if_pos hw]; exact h.imp (Oper.wp_mono hnext) id
  ·rename_i hw; rw [if_neg hw]; exact hnext _ _ h
/-- What is left of a region whose first s operations have been carried out. -/
def WAny (P : Program) (ops : Array Oper) (Q : Exit → Act → World → Prop) (s : Nat) (n : Nd) (L : Env) (w : World) : Prop :=
 ∀ (a : Act) (fuel : Nat) (listed : Array Bool), Agree a n L → listed.size = ops.size → (∀ j, j < ops.size → (listed.getD j false = true ↔ j < s)) → ops.size - s ≤ fuel → wpAny P .any ops Q fuel listed a w
theorem getD_rep (k j : Nat) : (Array.replicate k false).getD j false = false := by
 simp only [Array.getD_eq_getD_getElem?, Array.getElem?_replicate]
 split <;> rfl
theorem wc_drawA {id : Nat} {n : Nd} {L : Env} {w : World} (hm : P.follows .mixedOrders = true) (h : ∀ w', Ext w w' → WAny P ops Q 0 n L w') : WC P (.region id ops true) Q n L w := by
 intro a ha
 refine wp_region_any hm (h _ (ext_drew w) a ops.size (Array.replicate ops.size false) ha (by simp) (fun j _ => ?_) (by omega))
 rw [getD_rep]
 simp
theorem wa_tail {m : Nat} {n : Nd} {L : Env} {w : World} (hok : tailOk ops m = true) (h : WL P ops Q (ops.toList.drop m) n L w) : WAny P ops Q m n L w := by
 intro a fuel listed ha hs hl hf
 simp only [tailOk, Bool.and_eq_true, List.all_eq_true, List.mem_range, Bool.or_eq_true] at hok
 obtain ⟨⟨hd, hmle⟩, hcl⟩ := hok
 refine tail_ok (fun i hi j hj => Nat.le_of_ble_eq_true (hd i hi j hj)) m ?_ (ops.size - m) m fuel listed a w rfl (Nat.le_refl _) (Nat.le_of_ble_eq_true hmle) hf hs hl (h a ha)
 intro t ht hts j hj
 rcases hcl t hts with h | h
 ·have := Nat.le_of_ble_eq_true h; omega
 ·simpa using h j hj
theorem wa_main (R : List Nat → World → World → Prop) (hR1 : ∀ l a b, Ext a b → R l a b) (hR2 : ∀ l e a b c, e ∈ l → R l a b → R [e] b c → R l a c) (hR3 : ∀ l a b c, R l a b → Ext b c → R l a c) (s m : Nat) (F : List (Nat × Pred)) (needs us ts : List (List Nat)) (es : List (Option Nat)) (kept : List Bool) (all : List Nat) (L : Env) (Vs : List (Nat × Nat × Value)) (vols : List (List Nat)) {n : Nd} {L0 : Env} {w : World} (hL0 : ∀ i v, L.get i = some v → L0.get i = some v) (hV0 : L0.sub (Vs.map (·.2)))
  (hok : mixOk n.n ops s m (F.map (·.1)) needs us ts es kept all (Vs.map fun e => (e.1, e.2.1)) vols = true) (hL : F.all (fun p => (L.get p.1).isNone) = true) (hst : AllStb R F us) (hop : Obs P R es ts Vs vols ops L w F s 0 needs)
  (hfin : ∀ w', R all w w' → AllF w' (fun L' => WAny P ops Q m n L' w') F kept L) : WAny P ops Q s n L0 w := by
 intro a fuel0 listed0 ha0 hs0 hl0 hf0
 have ha := ha0.sub hL0
 simp only [mixOk, Bool.and_eq_true, List.all_eq_true, List.mem_range, Bool.or_eq_true] at hok
 obtain ⟨⟨⟨⟨⟨⟨⟨⟨⟨⟨⟨⟨⟨hall0, hvk⟩, hvol⟩, hlev⟩, hfrn⟩, hkept⟩, hmle0⟩, hFl⟩, hnl⟩, hd⟩, hds⟩, hcl⟩, hnd⟩, hdist⟩ := hok
 have hmle : m ≤ ops.size := Nat.le_of_ble_eq_true hmle0.1
 have hsm : s ≤ m := Nat.le_of_ble_eq_true hmle0.2
 have hFl : F.length = m := by simpa using Nat.eq_of_beq_eq_true hFl
 have hnl : needs.length = m := Nat.eq_of_beq_eq_true hnl
 have hlt : ∀ i, i < ops.size → ∀ j ∈ depsOf ops i, j < i := fun i hi j hj => Nat.le_of_ble_eq_true (hd i hi j hj)
 have nb : ∀ i, s ≤ i → Nat.blt i s = true → False := fun i hi h => by have := Nat.le_of_ble_eq_true h; omega
 have hcl' : ∀ t, m ≤ t → t < ops.size → ∀ j, s ≤ j → j < m → j ∈ clo (depsOf ops) t (depsOf ops t) := by
  intro t ht hts j hsj hj
  rcases hcl t hts with h | h
  ·have := Nat.le_of_ble_eq_true h; omega
  ·rcases h j hj with h | h
   ·exact (nb j hsj h).elim
   ·simpa using h
 have hFget : ∀ i, s ≤ i → i < m → ∃ (d : Nat) (φ : Pred), F[i]? = some (d, φ) ∧ ((dstOf ops i = some d ∧ d < n.n) ∨ (dstOf ops i = none ∧ (n.n ≤ d ∨ ∃ j ∈ needs.getD i [], dstOf ops j = some d))) := by
  intro i hsi hi
  have h := (hds i hi).resolve_left (nb i hsi)
  have hget : F[i]? = some F[i] := List.getElem?_eq_getElem (by omega)
  refine ⟨F[i].1, F[i].2, hget, ?_⟩
  rw [List.getElem?_map, hget] at h
  simp only [Option.map_some] at h
  cases hdo : dstOf ops i with
  | none =>
   rw [hdo] at h
   simp only [Bool.or_eq_true, List.any_eq_true] at h
   refine .inr ⟨rfl, ?_⟩
   rcases h with h | ⟨j, hj, h⟩
   ·exact .inl (Nat.le_of_ble_eq_true h)
   ·refine .inr ⟨j, hj, ?_⟩
    cases hdj : dstOf ops j with
    | none => rw [hdj] at h; cases h
    | some d => rw [hdj] at h; rw [Nat.eq_of_beq_eq_true h]
  | some d =>
   rw [hdo] at h
   simp only [Bool.and_eq_true] at h
   have e := Nat.eq_of_beq_eq_true h.1
   subst e
   exact .inl ⟨rfl, Nat.le_of_ble_eq_true h.2⟩
 have hDd : ∀ (i j d d' : Nat), s ≤ i → i < m → s ≤ j → j < m → i ≠ j → dstOf ops i = some d → dstOf ops j = some d' → d ≠ d' := by
  intro i j d d' hsi hil hsj hjl hne hi hj e
  obtain ⟨x, φ, hFi, hx⟩ := hFget i hsi hil
  obtain ⟨y, φ', hFj, hy⟩ := hFget j hsj hjl
  have ex : x = d := by
   rcases hx with ⟨e1, _⟩ | ⟨e1, _⟩
   ·rw [hi] at e1; exact (Option.some.inj e1).symm
   ·rw [hi] at e1; cases e1
  have ey : y = d' := by
   rcases hy with ⟨e1, _⟩ | ⟨e1, _⟩
   ·rw [hj] at e1; exact (Option.some.inj e1).symm
   ·rw [hj] at e1; cases e1
  subst ex ey
  rcases ((hdist i hil).resolve_left (nb i hsi)) j hjl with h | h
  ·rcases h with h | h
   ·rcases h with h | h
    ·rcases h with h | h
     ·exact nb j hsj h
     ·rw [hi] at h; cases h
    ·rw [hj] at h; cases h
   ·exact hne (Nat.eq_of_beq_eq_true h)
  ·simp [List.getD, List.getElem?_map, hFi, hFj] at h; exact Nat.ne_of_beq_eq_false h e
 have hLn : ∀ (i d : Nat) (φ : Pred), F[i]? = some (d, φ) → L.get d = none := by
  intro i d φ hi
  have := List.all_eq_true.1 hL (d, φ) (List.mem_of_getElem? hi)
  simpa only [Option.isNone_iff_eq_none] using this
 have hfrn' : ∀ i, s ≤ i → i < m → ∀ j ∈ needs.getD i [], ∀ k, s ≤ k → k < m → ∀ e, es.getD k none = some e → k = j ∨ k = i ∨ e ∈ us.getD j [] ∨ k ∈ clo (depsOf ops) j (depsOf ops j) ∨ i ∈ clo (depsOf ops) k (depsOf ops k) := by
  intro i hsi hi j hj k hsk hk e he
  have h := (((hfrn i hi).resolve_left (nb i hsi)) j hj k hk).resolve_left (nb k hsk)
  rw [he] at h
  simp only [Bool.or_eq_true] at h
  rcases h with (((h | h) | h) | h) | h
  ·exact .inr (.inr (.inl (by simpa using h)))
  ·exact .inl (Nat.eq_of_beq_eq_true h)
  ·exact .inr (.inl (Nat.eq_of_beq_eq_true h))
  ·exact .inr (.inr (.inr (.inl (by simpa using h))))
  ·exact .inr (.inr (.inr (.inr (by simpa using h))))
 have hlev' : ∀ i, s ≤ i → i < m → ∀ k, s ≤ k → k < m → k ≠ i → ∀ e, es.getD k none = some e → e ∈ ts.getD i [] ∨ i ∈ clo (depsOf ops) k (depsOf ops k) := by
  intro i hsi hi k hsk hk hne e he
  have h := (((hlev i hi).resolve_left (nb i hsi)) k hk)
  rw [he] at h
  simp only [Bool.or_eq_true] at h
  rcases h with (h | h) | h | h
  ·exact (nb k hsk h).elim
  ·exact absurd (Nat.eq_of_beq_eq_true h) hne
  ·exact .inl (by simpa using h)
  ·exact .inr (by simpa using h)
 have hallE : ∀ k, k < m → ∀ e, es.getD k none = some e → e ∈ all := by
  intro k hk e he
  have h := hall0 k hk
  rw [he] at h
  simpa using h
 have bnb : ∀ i, s ≤ i → Nat.blt i s = false := fun i hi => by
  cases hb : Nat.blt i s with
  | false => rfl
  | true => exact (nb i hi hb).elim
 have hkge : ∀ j, j < m → kept.getD j false = true → s ≤ j := by
  intro j hj hkp
  rcases Nat.lt_or_ge j s with h | h
  ·have h1 := hkept j hj
   have hb : Nat.blt j s = true := Nat.ble_eq_true_of_le h
   rw [hb, hkp] at h1
   simp at h1
  ·exact h
 have hkept' : ∀ j, j < m → kept.getD j false = true → ∀ k, s ≤ k → k < m → ∀ e, es.getD k none = some e → k = j ∨ e ∈ us.getD j [] ∨ k ∈ clo (depsOf ops) j (depsOf ops j) := by
  intro j hj hkp k hsk hk e he
  have h0 := hkept j hj
  rw [bnb j (hkge j hj hkp)] at h0
  simp only [cond_false, Bool.or_eq_true, List.all_eq_true, List.mem_range] at h0
  rcases h0 with h | h
  ·rw [hkp] at h; exact absurd h (by decide)
  ·have h := (h k hk).resolve_left (nb k hsk)
   rw [he] at h
   simp only [Bool.or_eq_true] at h
   rcases h with (h | h) | h
   ·exact .inr (.inl (by simpa using h))
   ·exact .inl (Nat.eq_of_beq_eq_true h)
   ·exact .inr (.inr (by simpa using h))
 have hvk' : ∀ (j k d : Nat) (v : Value), Vs[j]? = some (k, d, v) → k < m ∧ dstOf ops k = some d := by
  intro j k d v hj
  have h := hvk (k, d) (List.mem_map.2 ⟨(k, d, v), List.mem_of_getElem? hj, rfl⟩)
  obtain ⟨h1, h2⟩ := h
  refine ⟨Nat.le_of_ble_eq_true h1, ?_⟩
  cases hd' : dstOf ops k with
  | none => rw [hd'] at h2; cases h2
  | some d' => rw [hd'] at h2; rw [Nat.eq_of_beq_eq_true h2]
 have hvol' : ∀ i, s ≤ i → i < m → ∀ j ∈ vols.getD i [], ∀ (k d : Nat) (v : Value), Vs[j]? = some (k, d, v) → k = i ∨ i ∈ clo (depsOf ops) k (depsOf ops k) := by
  intro i hsi hi j hj k d v he
  have h := (hvol i hi).resolve_left (nb i hsi) j hj
  rw [List.getElem?_map, he] at h
  simp only [Option.map_some, Bool.or_eq_true] at h
  rcases h with h | h
  ·exact .inl (Nat.eq_of_beq_eq_true h)
  ·exact .inr (by simpa using h)
 -- the main part
 have main : ∀ (c fuel : Nat) (listed : Array Bool) (a : Act) (w' : World), (List.range m).countP (fun j => !listed.getD j false) = c → (ops.size - m) + c ≤ fuel → listed.size = ops.size →
   (∀ t, m ≤ t → listed.getD t false = false) → (∀ j, j < s → listed.getD j false = true) → (∀ j, listed.getD j false = true → ∀ x ∈ depsOf ops j, listed.getD x false = true) → R all w w' → (∀ i, s ≤ i → i < m → listed.getD i false = false → R (ts.getD i []) w w') → (∀ (j k d : Nat) (v : Value), Vs[j]? = some (k, d, v) → listed.getD k false = false → a.tmps.getD d undef = v) → Agree a n L →
   (∀ (i d : Nat) (φ : Pred), F[i]? = some (d, φ) → s ≤ i → listed.getD i false = true → (∀ k, s ≤ k → k < m → ∀ e, es.getD k none = some e → listed.getD k false = true → k = i ∨ e ∈ us.getD i [] ∨ k ∈ clo (depsOf ops) i (depsOf ops i)) → φ (a.tmps.getD d undef) w') → wpAny P .any ops Q fuel listed a w' := by
  intro c
  induction c with
  | zero =>
   intro fuel listed a w' hc hf hs ht hpre hdc hE hS hV hA hfac
   have hall : ∀ j, j < m → listed.getD j false = true := by
    intro j hj
    have := List.countP_eq_zero.1 hc j (by simpa using hj)
    simpa using this
   obtain ⟨L', hW, hA'⟩ := allF_use F kept L (hfin w' hE) hA (fun i d φ hi hkp => by
    have him : i < m := by rw [← hFl]; exact (List.getElem?_eq_some_iff.1 hi).1
    exact hfac i d φ hi (hkge i him hkp) (hall i him) (fun k hsk hk e he _ => hkept' i him hkp k hsk hk e he))
   exact hW a fuel listed hA' hs (fun j hj => ⟨(fun h => by
    rcases Nat.lt_or_ge j m with h' | h'
    ·exact h'
    ·rw [ht j h'] at h; cases h), hall j⟩) (by omega)
  | succ c ih =>
   intro fuel listed a w' hc hf hs ht hpre hdc hE hS hV hA hfac
   obtain ⟨fuel, rfl⟩ : ∃ f, fuel = f + 1 := ⟨fuel - 1, by omega⟩
   -- some operation of the main part is not listed; the least such is ready
   have hex : ∃ j, j < m ∧ listed.getD j false = false := by
    rcases Classical.em (∃ j, j < m ∧ listed.getD j false = false) with h | h
    ·exact h
    ·exfalso
     have : (List.range m).countP (fun j => !listed.getD j false) = 0 := by
      rw [List.countP_eq_zero]
      intro j hj
      have hj' : j < m := by simpa using hj
      cases hb : listed.getD j false with
      | true => simp
      | false => exact absurd ⟨j, hj', hb⟩ h
     omega
   have hready : ∃ j, j ∈ Region.ready .any ops listed := by
    obtain ⟨j, hj⟩ := hex
    have key : ∀ j, (j < m ∧ listed.getD j false = false) → ∃ k, k ∈ Region.ready .any ops listed := by
     intro j
     induction j using Nat.strongRecOn with
     | _ j ihj =>
      rintro ⟨hjm, hjf⟩
      by_cases hd' : ∀ x ∈ depsOf ops j, listed.getD x false = true
      ·exact ⟨j, (ready_mem hs).2 ⟨by omega, hjf, hd'⟩⟩
      ·obtain ⟨x, hx⟩ := Classical.not_forall.1 hd'
       obtain ⟨hx1, hx2⟩ := Classical.not_imp.1 hx
       have := hlt j (by omega) x hx1
       exact ihj x this ⟨by omega, by simpa using hx2⟩
    exact key j hj
   refine ⟨fun e => by obtain ⟨j, hj⟩ := hready; rw [e] at hj; simp at hj, fun i hi => ?_⟩
   obtain ⟨his, hif, hid⟩ := (ready_mem hs).1 hi
   have him : i < m := by
    rcases Nat.lt_or_ge i m with h | h
    ·exact h
    ·exfalso
     obtain ⟨j, hjm, hjf⟩ := hex
     have hsj : s ≤ j := by
      rcases Nat.lt_or_ge j s with h' | h'
      ·rw [hpre j h'] at hjf; cases hjf
      ·exact h'
     have := clo_sound (depsOf ops) (fun x => listed.getD x false = true) hdc i (depsOf ops i) hid j (hcl' i h his j hsj (by omega))
     simp only [hjf] at this
     cases this
   have hsi : s ≤ i := by
    rcases Nat.lt_or_ge i s with h | h
    ·rw [hpre i h] at hif; cases hif
    ·exact h
   obtain ⟨d, φ, hFi, hdi⟩ := hFget i hsi him
   have hEi : R (ts.getD (0 + i) []) w w' := by rw [Nat.zero_add]; exact hS i hsi him hif
   have hob := obs_get needs 0 i hop (by omega) (by omega) w' hEi
   simp only [Nat.zero_add, Array.getElem?_eq_getElem his, hFi] at hob
   obtain ⟨L1, hob, hA1⟩ := volN_use (vols.getD i []) L hob hA (fun j hj k d' v' hVj => by
    refine hV j k d' v' hVj ?_
    rcases hvol' i hsi him j hj k d' v' hVj with h | h
    ·subst h; exact hif
    ·cases hlk : listed.getD k false with
     | false => rfl
     | true =>
      have := clo_sound (depsOf ops) (fun x => listed.getD x false = true) hdc k (depsOf ops k) (hdc k hlk) i h
      simp only [hif] at this; cases this)
   obtain ⟨L', hG, hA', hLn', _⟩ := allN_use (needs.getD i []) L1 hob hA1 (fun j hj d' φ' hFj => by
    have h1 := ((hnd i him).resolve_left (nb i hsi)) j hj
    have hjc : j ∈ clo (depsOf ops) i (depsOf ops i) := by simpa using h1.1.1
    have hsj : s ≤ j := Nat.le_of_ble_eq_true h1.2
    refine hfac j d' φ' hFj hsj (clo_sound (depsOf ops) (fun x => listed.getD x false = true) hdc i (depsOf ops i) hid j hjc) (fun k hsk hk e he hkl => ?_)
    rcases hfrn' i hsi him j hj k hsk hk e he with h | h | h | h | h
    ·exact .inl h
    ·subst h; rw [hif] at hkl; cases hkl
    ·exact .inr (.inl h)
    ·exact .inr (.inr h)
    ·have := clo_sound (depsOf ops) (fun x => listed.getD x false = true) hdc k (depsOf ops k) (hdc k hkl) i h
     simp only [hif] at this; cases this)
   have hdi' : dstOf ops i = ops[i].dst := by simp only [dstOf, Array.getElem?_eq_getElem his, Option.bind_some]
   have hsv : ∀ v, slotVal ops[i] d L' v = if ops[i].dst = none then a.tmps.getD d undef else v := by
    intro v
    rcases hdi with ⟨e1, hdn⟩ | ⟨e1, hdn⟩
    ·rw [hdi'] at e1
     simp only [slotVal, e1]
     rfl
    ·have e1' := e1
     rw [hdi'] at e1
     simp only [slotVal, e1]
     rw [if_pos trivial]
     rcases hdn with hdn | ⟨j, hj, hdj⟩
     ·cases hL' : L'.get d with
      | none =>
       have : a.tmps.size ≤ d := by rw [hA.size]; exact hdn
       simp [Array.getD_eq_getD_getElem?, Array.getElem?_eq_none this]
      | some u => exact (hA'.get d u hL').symm
     ·have h1 := ((hnd i him).resolve_left (nb i hsi)) j hj
      have hjm : j < m := Nat.le_of_ble_eq_true h1.1.2
      have hsj : s ≤ j := Nat.le_of_ble_eq_true h1.2
      obtain ⟨dj, φj, hFj, hdj'⟩ := hFget j hsj hjm
      have e : dj = d := by
       rcases hdj' with ⟨e2, _⟩ | ⟨e2, _⟩
       ·rw [hdj] at e2; exact (Option.some.inj e2).symm
       ·rw [hdj] at e2; cases e2
      subst e
      rw [hLn' j hj dj φj hFj]
      rfl
   have hnext : ∀ v w'', (φ (slotVal ops[i] d L' v) w'' ∧ StepR R (es.getD i none) w' w'') → wpAny P .any ops Q fuel (listed.setIfInBounds i true) (a.put ops[i].dst v) w'' := by
    rintro v w'' ⟨hv, hE2⟩
    rw [hsv] at hv
    have hE' : R all w w'' := by
     cases hes : es.getD i none with
     | some e => rw [hes] at hE2; exact hR2 _ e _ _ _ (hallE i him e hes) hE hE2
     | none => rw [hes] at hE2; exact hR3 _ _ _ _ hE hE2
    have hdlt : ∀ x, ops[i].dst = some x → x < a.tmps.size := by
     intro x hx
     rw [hA.size]
     rcases hdi with ⟨e1, hdn⟩ | ⟨e1, _⟩
     ·rw [hdi', hx] at e1; cases e1; exact hdn
     ·rw [hdi', hx] at e1; cases e1
    have hget : ∀ s, (a.put ops[i].dst v).tmps.getD s undef = if ops[i].dst = some s then v else a.tmps.getD s undef := by
     intro s
     cases e1 : ops[i].dst with
     | none => simp [Act.put]
     | some x =>
      by_cases e : x = s
      ·subst e
       have := hdlt x e1
       simp [Act.put, this]
      ·simp [Act.put, Array.getD_eq_getD_getElem?, Array.getElem?_setIfInBounds_ne e, e]
    have hputs : (a.put ops[i].dst v).tmps.size = n.n := by
     cases e1 : ops[i].dst <;> simp [Act.put, hA.size]
    have hputd : (a.put ops[i].dst v).defers = n.ds := by
     cases e1 : ops[i].dst <;> simpa [Act.put] using hA.defers
    refine ih fuel _ _ w'' ?_ (by omega) (by simpa using hs) (fun t ht' => ?_) (fun j hj => by rw [getD_set _ _ _ (by omega)]; split; rfl; exact hpre j hj) (fun j hj x hx => ?_) hE' (fun j hsj hjm hjl => ?_) (fun j k d' v' hVj hlk => ?_) ⟨hputs, hputd, fun s u hu => ?_⟩ (fun j d' φ' hFj hsj hl hal => ?_)
    ·have := countP_drop (List.range m) List.nodup_range (fun j => !listed.getD j false) (fun j => !(listed.setIfInBounds i true).getD j false) i (by simpa using him) (by simp [hif]) (by rw [getD_set _ _ _ (by omega)]; simp)
      (fun j hj => by rw [getD_set _ _ _ (by omega), if_neg (fun e => hj e.symm)])
     omega
    ·rw [getD_set _ _ _ (by omega), if_neg (by omega)]; exact ht t ht'
    ·rw [getD_set _ _ _ (by omega)] at hj ⊢
     split
     ·rfl
     ·split at hj
      ·rename_i e; subst e; exact hid x hx
      ·exact hdc j hj x hx
    ·rw [getD_set _ _ _ (by omega)] at hjl
     split at hjl
     ·cases hjl
     ·rename_i hij
      have h0 := hS j hsj hjm hjl
      cases hes : es.getD i none with
      | none => rw [hes] at hE2; exact hR3 _ _ _ _ h0 hE2
      | some e =>
       rw [hes] at hE2
       rcases hlev' j hsj hjm i hsi him (fun e => hij e) e hes with h | h
       ·exact hR2 _ e _ _ _ h h0 hE2
       ·have := clo_sound (depsOf ops) (fun x => listed.getD x false = true) hdc i (depsOf ops i) hid j h
        simp only [hjl] at this; cases this
    ·obtain ⟨hkm, hkd⟩ := hvk' j k d' v' hVj
     rw [getD_set _ _ _ (by omega)] at hlk
     split at hlk
     ·cases hlk
     ·rename_i hik
      rw [hget]
      have hsk : s ≤ k := by
       rcases Nat.lt_or_ge k s with h | h
       ·rw [hpre k h] at hlk; cases hlk
       ·exact h
      rw [if_neg (fun e => hDd i k d' d' hsi him hsk hkm hik (by rw [hdi']; exact e) hkd rfl)]
      exact hV j k d' v' hVj hlk
    ·rw [hget]
     split
     ·rename_i e
      rcases hdi with ⟨e1, _⟩ | ⟨e1, _⟩
      ·rw [hdi', e] at e1; cases e1; rw [hLn i _ φ hFi] at hu; cases hu
      ·rw [hdi', e] at e1; cases e1
     ·exact hA.get s u hu
    ·rw [hget]
     rw [getD_set _ _ _ (by omega)] at hl
     by_cases e : i = j
     ·subst e
      rw [hFi] at hFj
      simp only [Option.some.injEq, Prod.mk.injEq] at hFj
      obtain ⟨rfl, rfl⟩ := hFj
      rcases hdi with ⟨e1, _⟩ | ⟨e1, _⟩
      ·rw [hdi'] at e1
       rw [if_pos e1]
       rw [if_neg (by rw [e1]; simp)] at hv
       exact hv
      ·rw [hdi'] at e1
       rw [if_neg (by rw [e1]; simp)]
       rw [if_pos e1] at hv
       exact hv
     ·rw [if_neg e] at hl
      have hjm : j < m := by rw [← hFl]; exact (List.getElem?_eq_some_iff.1 hFj).1
      have hne : ¬ ops[i].dst = some d' := by
       intro e2
       obtain ⟨dj, φj, hFj2, hdj⟩ := hFget j hsj hjm
       rw [hFj] at hFj2
       simp only [Option.some.injEq, Prod.mk.injEq] at hFj2
       obtain ⟨rfl, rfl⟩ := hFj2
       rcases hdj with ⟨e3, _⟩ | ⟨e3, h3 | ⟨jj, hjj, hdjj⟩⟩
       ·exact hDd i j d' d' hsi him hsj hjm e (by rw [hdi']; exact e2) e3 rfl
       ·have h9 : d' < n.n := by rw [← hA.size]; exact hdlt d' e2
        exact absurd h9 (by omega)
       ·have h1 := ((hnd j hjm).resolve_left (nb j hsj)) jj hjj
        have hjjm : jj < m := Nat.le_of_ble_eq_true h1.1.2
        have hsjj : s ≤ jj := Nat.le_of_ble_eq_true h1.2
        have hjl := clo_sound (depsOf ops) (fun x => listed.getD x false = true) hdc j (depsOf ops j) (hdc j hl) jj (by simpa using h1.1.1)
        refine hDd i jj d' d' hsi him hsjj hjjm (fun e4 => ?_) (by rw [hdi']; exact e2) hdjj rfl
        subst e4
        simp only [hif] at hjl; cases hjl
      rw [if_neg hne]
      have hold := hfac j d' φ' hFj hsj hl (fun k hsk hk e2 he2 hkl => hal k hsk hk e2 he2 (by rw [getD_set _ _ _ (by omega)]; split; rfl; exact hkl))
      have hstj := allStb_get hst j d' φ' hFj
      cases hes : es.getD i none with
      | none => rw [hes] at hE2; exact hstj.1 _ _ _ hold hE2
      | some e2 =>
       rw [hes] at hE2
       rcases hal i hsi him e2 hes (by rw [getD_set _ _ _ (by omega)]; simp) with h | h | h
       ·exact absurd h e
       ·exact hstj.2 e2 h _ _ _ hold hE2
       ·have := clo_sound (depsOf ops) (fun x => listed.getD x false = true) hdc j (depsOf ops j) (hdc j hl) i h
        simp only [hif] at this; cases this
   have hfinal := hG a n (fun a' w'' => wpAny P .any ops Q fuel (listed.setIfInBounds i true) a' w'') Q hA' hnext
   unfold wpOp
   simp only [Array.getElem?_eq_getElem his]
   split at hfinal
   ·rename_i hw; rw [if_pos hw]; exact .inl hfinal
   ·rename_i hw; rw [if_neg hw]; exact hfinal
 refine main ((List.range m).countP fun j => !listed0.getD j false) fuel0 listed0 a w rfl ?_ hs0 (fun t ht => ?_) (fun j hj => ?_) (fun j hj x hx => ?_) (hR1 _ _ _ (ext_refl w)) (fun _ _ _ _ => hR1 _ _ _ (ext_refl w)) (fun j k d v hVj _ => ha0.get d v (vs_get hV0 hVj)) ha (fun i d φ hFi0 hsi hl _ => ?_)
 ·have h1 : (List.range m).countP (fun j => !listed0.getD j false) ≤ m - s := by
   have h2 : (List.range m).countP (fun j => !listed0.getD j false) ≤ (List.range m).countP (fun j => Nat.ble s j) := by
    refine List.countP_mono_left fun j hj hb => ?_
    have hjm : j < m := by simpa using hj
    rcases Nat.lt_or_ge j s with h | h
    ·rw [(hl0 j (by omega)).2 h] at hb; cases hb
    ·exact Nat.ble_eq_true_of_le h
   refine Nat.le_trans h2 ?_
   have h3 : ∀ k, (List.range k).countP (fun j => Nat.ble s j) ≤ k - s := by
    intro k
    induction k with
    | zero => simp
    | succ k ih =>
     rw [List.range_succ, List.countP_append]
     simp only [List.countP_cons, List.countP_nil]
     by_cases h : s ≤ k
     ·rw [Nat.ble_eq_true_of_le h]; simp; omega
     ·have hb : Nat.ble s k = false := by
       cases hb : Nat.ble s k with
       | false => rfl
       | true => exact absurd (Nat.le_of_ble_eq_true hb) h
      rw [hb]; simp; omega
   exact h3 m
  omega
 ·cases hb : listed0.getD t false with
  | false => rfl
  | true =>
   exfalso
   by_cases htl : t < ops.size
   ·have := (hl0 t htl).1 hb
    omega
   ·rw [Array.getD_eq_getD_getElem?, Array.getElem?_eq_none (by omega)] at hb; cases hb
 ·exact (hl0 j (by omega)).2 hj
 ·by_cases hjl : j < ops.size
  ·have h1 := (hl0 j hjl).1 hj
   have h2 := hlt j hjl x hx
   exact (hl0 x (by omega)).2 (by omega)
  ·have : depsOf ops j = [] := by simp [depsOf, Array.getElem?_eq_none (Nat.le_of_not_lt hjl)]
   rw [this] at hx; simp at hx
 ·exfalso
  have him : i < m := by
   rw [← hFl]; exact (List.getElem?_eq_some_iff.1 hFi0).1
  have := (hl0 i (by omega)).1 hl
  omega
theorem wc_draw {id : Nat} (hm : P.follows .mixedOrders = true) (m : Nat) (F : List (Nat × Pred)) (needs : List (List Nat)) (L : Env) (Vs : List (Nat × Nat × Value)) (vols : List (List Nat)) {n : Nd} {L0 : Env} {w : World} (hL0 : ∀ i v, L.get i = some v → L0.get i = some v) (hV0 : L0.sub (Vs.map (·.2)))
  (hok : (mixOk n.n ops 0 m (F.map (·.1)) needs [] [] [] (List.replicate m true) [] (Vs.map fun e => (e.1, e.2.1)) vols && tailOk ops m) = true) (hL : F.all (fun p => (L.get p.1).isNone) = true) (hst : AllStb (fun _ => Ext) F []) (hop : Obs P (fun _ => Ext) [] [] Vs vols ops L w F 0 0 needs)
  (hfin : ∀ w', Ext w w' → AllF w' (fun L' => WL P ops Q (ops.toList.drop m) n L' w') F (List.replicate m true) L) : WC P (.region id ops true) Q n L0 w := by
 rw [Bool.and_eq_true] at hok
 refine wc_drawA hm fun w1 h1 => wa_main (fun _ => Ext) (fun _ _ _ h => h) (fun _ _ _ _ _ _ h k => h.tr k) (fun _ _ _ _ h k => h.tr k) 0 m F needs [] [] [] (List.replicate m true) [] L Vs vols hL0 hV0 hok.1 hL hst (obs_ext h1 needs 0 hop) fun w' h2 => ?_
 exact allF_imp (fun L' h => wa_tail hok.2 h) F _ L (hfin w' (h1.tr h2))
end
/-! Facts that steps which only make memory keep. -/
abbrev eqv (c : Value) : Pred := fun v _ => v = c
def isB (lo : Nat) (l : List UInt8) : Pred := fun v w => ∃ A c, v = .slice A l.length c ∧ RdB w lo w.heap.size A c l
def isOwnB (lo : Nat) (e : TypeId) (l : List UInt8) : Pred := fun v w => ∃ A c, v = .slice A l.length c ∧ OwnB w lo e A c l
def isCell (x : Value) : Pred := fun v w => ∃ p, v = .pointer (some p) ∧ w.cell? p = some x
theorem stb_eqv {R : World → World → Prop} (c : Value) : StbR R (eqv c) := fun _ _ _ h _ => h
theorem stb_isB (lo : Nat) (l : List UInt8) : Stb (isB lo l) := fun v w w' ⟨A, c, hv, hr⟩ he => ⟨A, c, hv, (hr.ext he).mono (Nat.le_refl _) he.size⟩
theorem stb_isOwnB (lo : Nat) (e : TypeId) (l : List UInt8) : Stb (isOwnB lo e l) := fun v w w' ⟨A, c, hv, hr⟩ he => ⟨A, c, hv, Own.ext hr he⟩
theorem ext_cell {w w' : World} {p : Addr} {x : Value} (he : Ext w w') (h : w.cell? p = some x) : w'.cell? p = some x :=
 (World.cell?_of_block (he.block p.block (World.block_lt_of_cell? w _ h) (by simp))).trans h
theorem stb_isCell (x : Value) : Stb (isCell x) := fun v w w' ⟨p, hv, hc⟩ he => ⟨p, hv, ext_cell he hc⟩
end Go.Proofs.YtiighkbehiddkaaGreat