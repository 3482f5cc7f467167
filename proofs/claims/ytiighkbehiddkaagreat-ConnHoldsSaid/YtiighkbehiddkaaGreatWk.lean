/-
 The walk's frame: a way of stepping through a function's code in which the frame is known by a list of slots and the memory by facts; plain laws, over any program. No condition.
-/
import Derived.WalkKit
import Derived.WalkSpells
import Derived.WalkLawsBesides
import Derived.Orders
namespace Go.Proofs.YtiighkbehiddkaaGreat
open Go.RowKit
abbrev Env := List (Nat × Value)
def Env.get : Env → Nat → Option Value
 | [], _ => none
 | (j, v) :: L, i => bif Nat.beq j i then some v else Env.get L i
def ev (L : Env) : Operand → Option Value
 | .tmp t => L.get t
 | .const v => some v
 | .global g => some (.pointer (some ⟨g, 0, none⟩))
 | .func f => some (.func (.func f) #[] #[])
def evs (L : Env) : List Operand → Option (List Value)
 | [] => some []
 | x :: xs => match ev L x, evs L xs with
  | some v, some vs => some (v :: vs)
  | _, _ => none
/-- A frame's size, and the calls that are deferred in it. -/
structure Nd where
 n : Nat
 ds : List Deferred
structure Agree (a : Act) (n : Nd) (L : Env) : Prop where
 size : a.tmps.size = n.n
 defers : a.defers = n.ds
 get : ∀ i v, L.get i = some v → a.tmps.getD i undef = v
theorem Env.get_cons (j : Nat) (v : Value) (L : Env) (i : Nat) : Env.get ((j, v) :: L) i = if j = i then some v else L.get i := by
 simp only [Env.get]
 by_cases h : j = i
 ·subst h; simp
 ·have : Nat.beq j i = false := by
   cases hb : Nat.beq j i with
   | false => rfl
   | true => exact absurd (Nat.eq_of_beq_eq_true hb) h
  simp [this, h]
section
variable {a : Act} {n : Nd} {L L' : Env} {x : Operand} {v : Value}
theorem Agree.eval (h : Agree a n L) (hx : ev L x = some v) : a.eval x = v := by
 cases x with
 | tmp t => exact h.get t v hx
 | const c => simpa [ev, Act.eval] using hx
 | global g => simpa [ev, Act.eval] using hx
 | func f => simpa [ev, Act.eval] using hx
theorem Agree.evals (h : Agree a n L) : ∀ {xs : List Operand} {vs : List Value}, evs L xs = some vs → xs.map a.eval = vs
 | [], vs, e => by simp only [evs, Option.some.injEq] at e; subst e; rfl
 | x :: xs, vs, e => by
  simp only [evs] at e
  cases hx : ev L x with
  | none => simp [hx] at e
  | some v =>
   cases hy : evs L xs with
   | none => simp [hx, hy] at e
   | some ws =>
    simp only [hx, hy, Option.some.injEq] at e
    subst e
    simp [h.eval hx, h.evals hy]
theorem Agree.put (h : Agree a n L) {d : Nat} (hd : d < n.n) (v : Value) : Agree (a.put (some d) v) n ((d, v) :: L) := by
 refine ⟨by simp [Act.put, h.size], by simpa [Act.put] using h.defers, fun i u hu => ?_⟩
 rw [Env.get_cons] at hu
 by_cases e : d = i
 ·subst e
  simp only [if_true, Option.some.injEq] at hu
  subst hu
  have hsz : d < a.tmps.size := by rw [h.size]; exact hd
  simp [Act.put, hsz]
 ·rw [if_neg e] at hu
  have := h.get i u hu
  simp only [Act.put, Array.getD_eq_getD_getElem?, Array.getElem?_setIfInBounds_ne e] at this ⊢
  exact this
theorem Agree.sub (h : Agree a n L) (hs : ∀ i v, L'.get i = some v → L.get i = some v) : Agree a n L' :=
 ⟨h.size, h.defers, fun i v hv => h.get i v (hs i v hv)⟩
theorem Agree.yield (h : Agree a n L) {ops : Array Oper} {j d : Nat} {b : Bool} (hj : (ops[j]?).bind (·.dst) = some d) (hv : L.get d = some (.bool b)) : yielded ops a.tmps j = some b := by
 have h1 := h.get d _ hv
 have h2 : a.tmps[d]? = some (.bool b) := by
  rw [Array.getD_eq_getD_getElem?] at h1
  cases hc : a.tmps[d]? with
  | none => rw [hc] at h1; simp [undef] at h1
  | some u => rw [hc] at h1; simpa using h1
 simp [yielded, hj, h2]
end
/-- L' holds no more than L: one by one. -/
def Env.sub (L : Env) : Env → Prop
 | [] => True
 | (i, v) :: L' => L.get i = some v ∧ L.sub L'
theorem Env.sub_get {L : Env} : ∀ {L' : Env}, L.sub L' → ∀ i v, L'.get i = some v → L.get i = some v
 | [], _, i, v, h => by simp [Env.get] at h
 | (j, u) :: L', hs, i, v, h => by
  rw [Env.get_cons] at h
  split at h
  ·rename_i e; subst e; simp only [Option.some.injEq] at h; subst h; exact hs.1
  ·exact Env.sub_get hs.2 i v h
/-- An operation yields a value and a world. -/
def OpRun (P : Program) (o : Oper) (L : Env) (w : World) (Post : Value → World → Prop) : Prop :=
 ∀ (a : Act) (n : Nd) (K : Act → World → Prop) (Q : Exit → Act → World → Prop), Agree a n L → (∀ v w', Post v w' → K (a.put o.dst v) w') → o.wp P a w K Q
/-- An operation yields a known value and leaves the world. -/
abbrev OpVal (P : Program) (o : Oper) (L : Env) (w : World) (c : Value) : Prop := OpRun P o L w fun v w' => v = c ∧ w' = w
/-- A call returns a value. -/
def Ret (Post : Value → World → Prop) (e : Ending) (w : World) : Prop := ∃ v, e = .returned v ∧ Post v w
/-- A function, called, returns a value with Post. -/
def Fn (P : Program) (f : FuncId) (args : Array Value) (w : World) (Post : Value → World → Prop) : Prop := Calls P f args w (Ret Post)
section
variable {P : Program} {o : Oper} {L : Env} {w : World} {Post : Value → World → Prop}
theorem opRun_of (h : ∀ ρ : Operand → Value, (∀ x v, ev L x = some v → ρ x = v) → (∀ xs vs, evs L xs = some vs → xs.map ρ = vs) → ∃ v w', (execOp ρ o).run P w = .ok (.value v) w' ∧ Post v w') : OpRun P o L w Post := by
 intro a n K Q ha hk
 obtain ⟨v, w', hr, hp⟩ := h a.eval (fun x v hx => ha.eval hx) (fun xs vs hx => ha.evals hx)
 unfold Oper.wp
 rw [hr]
 exact hk v w' hp
theorem opVal_of {c : Value} (h : ∀ ρ : Operand → Value, (∀ x v, ev L x = some v → ρ x = v) → (∀ xs vs, evs L xs = some vs → xs.map ρ = vs) → (execOp ρ o).run P w = .ok (.value c) w) : OpVal P o L w c :=
 opRun_of fun ρ h1 h2 => ⟨c, w, h ρ h1 h2, rfl, rfl⟩
theorem opRun_skip (h : ∀ ρ : Operand → Value, (∀ x v, ev L x = some v → ρ x = v) → (∀ xs vs, evs L xs = some vs → xs.map ρ = vs) → ∃ w', (execOp ρ o).run P w = .ok .skip w' ∧ Post undef w') : OpRun P o L w Post := by
 intro a n K Q ha hk
 obtain ⟨w', hr, hp⟩ := h a.eval (fun x v hx => ha.eval hx) (fun xs vs hx => ha.evals hx)
 unfold Oper.wp
 rw [hr]
 exact hk undef w' hp
theorem OpRun.mono {Post' : Value → World → Prop} (h : OpRun P o L w Post) (hp : ∀ v w', Post v w' → Post' v w') : OpRun P o L w Post' :=
 fun a n K Q ha hk => h a n K Q ha fun v w' hv => hk v w' (hp v w' hv)
theorem Fn.mono {f : FuncId} {args : Array Value} {Post' : Value → World → Prop} (h : Fn P f args w Post) (hp : ∀ v w', Post v w' → Post' v w') : Fn P f args w Post' :=
 Calls.mono h fun _ w' ⟨v, he, hv⟩ => ⟨v, he, hp v w' hv⟩
end
/-! Lists of operations, pieces of code. -/
def WL (P : Program) (ops : Array Oper) (Q : Exit → Act → World → Prop) (rest : List Oper) (n : Nd) (L : Env) (w : World) : Prop := ∀ a, Agree a n L → wpList P ops Q rest a w
def WC (P : Program) (c : Code) (Q : Exit → Act → World → Prop) (n : Nd) (L : Env) (w : World) : Prop := ∀ a, Agree a n L → c.wp P Q a w
section
variable {P : Program} {ops : Array Oper} {Q : Exit → Act → World → Prop} {o : Oper} {rest : List Oper} {n : Nd} {L : Env} {w : World}
theorem wl_step {Post : Value → World → Prop} {d : Nat} (hr : OpRun P o L w Post) (hg : o.guard = none) (hd : o.dst = some d) (hn : Nat.blt d n.n = true)
  (k : ∀ v w', Post v w' → WL P ops Q rest n ((d, v) :: L) w') : WL P ops Q (o :: rest) n L w := by
 intro a ha
 refine wpList_plain hg fun K hK => hr a n K Q ha fun v w' hp => hK _ _ (k v w' hp _ ?_)
 rw [hd]
 exact ha.put (Nat.le_of_ble_eq_true hn) v
theorem wl_step0 {Post : Value → World → Prop} (hr : OpRun P o L w Post) (hg : o.guard = none) (hd : o.dst = none)
  (k : ∀ v w', Post v w' → WL P ops Q rest n L w') : WL P ops Q (o :: rest) n L w := by
 intro a ha
 refine wpList_plain hg fun K hK => hr a n K Q ha fun v w' hp => hK _ _ (k v w' hp _ ?_)
 rw [hd]
 exact ha
theorem wl_val {c : Value} {d : Nat} (hr : OpVal P o L w c) (hg : o.guard = none) (hd : o.dst = some d) (hn : Nat.blt d n.n = true)
  (k : WL P ops Q rest n ((d, c) :: L) w) : WL P ops Q (o :: rest) n L w :=
 wl_step hr hg hd hn fun v w' ⟨hv, hw⟩ => by subst hv; subst hw; exact k
theorem wl_gstep {Post : Value → World → Prop} {d j dj : Nat} {b : Bool} (hr : OpRun P o L w Post) (hg : o.guard = some (j, b)) (hj : (ops[j]?).bind (·.dst) = some dj) (hb : L.get dj = some (.bool b))
  (hd : o.dst = some d) (hn : Nat.blt d n.n = true) (k : ∀ v w', Post v w' → WL P ops Q rest n ((d, v) :: L) w') : WL P ops Q (o :: rest) n L w := by
 intro a ha
 refine wpList_step fun K hK => ?_
 rw [if_pos (by simp [Region.wanted, hg, ha.yield hj hb])]
 refine hr a n K Q ha fun v w' hp => hK _ _ (k v w' hp _ ?_)
 rw [hd]
 exact ha.put (Nat.le_of_ble_eq_true hn) v
theorem wl_gval {c : Value} {d j dj : Nat} {b : Bool} (hr : OpVal P o L w c) (hg : o.guard = some (j, b)) (hj : (ops[j]?).bind (·.dst) = some dj) (hb : L.get dj = some (.bool b))
  (hd : o.dst = some d) (hn : Nat.blt d n.n = true) (k : WL P ops Q rest n ((d, c) :: L) w) : WL P ops Q (o :: rest) n L w :=
 wl_gstep hr hg hj hb hd hn fun v w' ⟨hv, hw⟩ => by subst hv; subst hw; exact k
theorem wl_gskip {d j dj : Nat} {b c : Bool} (hg : o.guard = some (j, b)) (hj : (ops[j]?).bind (·.dst) = some dj) (hb : L.get dj = some (.bool c)) (hne : c = !b)
  (hd : o.dst = some d) (hn : Nat.blt d n.n = true) (k : WL P ops Q rest n ((d, undef) :: L) w) : WL P ops Q (o :: rest) n L w := by
 intro a ha
 refine wpList_step fun K hK => ?_
 rw [if_neg (by simp [Region.wanted, hg, ha.yield hj hb, hne])]
 refine hK _ _ (k _ ?_)
 rw [hd]
 exact ha.put (Nat.le_of_ble_eq_true hn) undef
theorem wl_gskipU {d j dj : Nat} {b : Bool} (hg : o.guard = some (j, b)) (hj : (ops[j]?).bind (·.dst) = some dj) (hb : L.get dj = some undef)
  (hd : o.dst = some d) (hn : Nat.blt d n.n = true) (k : WL P ops Q rest n ((d, undef) :: L) w) : WL P ops Q (o :: rest) n L w := by
 intro a ha
 refine wpList_step fun K hK => ?_
 have hy : yielded ops a.tmps j = none := by
  have h1 := ha.get dj _ hb
  rw [Array.getD_eq_getD_getElem?] at h1
  unfold yielded
  rw [hj]
  simp only [Option.bind_some]
  cases hc : a.tmps[dj]? with
  | none => rfl
  | some u => rw [hc] at h1; simp only [Option.getD_some] at h1; subst h1; rfl
 rw [if_neg (by simp [Region.wanted, hg, hy])]
 refine hK _ _ (k _ ?_)
 rw [hd]
 exact ha.put (Nat.le_of_ble_eq_true hn) undef
theorem WL.sub {L' : Env} (h : WL P ops Q rest n L' w) (hs : L.sub L') : WL P ops Q rest n L w := fun a ha => h a (ha.sub (Env.sub_get hs))
end
section
variable {P : Program} {Q : Exit → Act → World → Prop} {x y : Code} {n : Nd} {L : Env} {w : World}
theorem WC.sub {L' : Env} (h : WC P x Q n L' w) (hs : L.sub L') : WC P x Q n L w := fun a ha => h a (ha.sub (Env.sub_get hs))
theorem wc_seq (h : WC P x (Exit.then (y.wp P Q) Q) n L w) : WC P (.seq x y) Q n L w := fun a ha => wp_seq (h a ha)
theorem wc_regionL {id : Nat} {l : List Oper} (h : WL P l.toArray Q l n L w) : WC P (.region id l.toArray false) Q n L w := fun a ha => wp_region_lit (h a ha)
theorem wc_skip (h : ∀ a, Agree a n L → Q .normal a w) : WC P .skip Q n L w := fun a ha => wp_skip (h a ha)
theorem wc_ret (h : ∀ a, Agree a n L → Q .ret a w) : WC P .ret Q n L w := fun a ha => wp_ret (h a ha)
theorem wc_exit {id : Nat} (h : ∀ a, Agree a n L → Q (.exit id) a w) : WC P (.exit id) Q n L w := fun a ha => wp_exit (h a ha)
theorem wc_block {id : Nat} (h : WC P x (Exit.inBlock id Q) n L w) : WC P (.block id x) Q n L w := fun a ha => wp_block (h a ha)
theorem wc_cond {c : Operand} {b : Bool} (hc : ev L c = some (.bool b)) (ht : b = true → WC P x Q n L w) (hf : b = false → WC P y Q n L w) : WC P (.cond c x y) Q n L w :=
 fun a ha => wp_cond_split (ha.eval hc) (fun e => ht e a ha) (fun e => hf e a ha)
theorem wc_cond_d {c : Operand} {p : Prop} {_ : Decidable p} (hc : ev L c = some (.bool (decide p))) (ht : p → WC P x Q n L w) (hf : ¬ p → WC P y Q n L w) : WC P (.cond c x y) Q n L w :=
 wc_cond hc (fun e => ht (of_decide_eq_true e)) (fun e => hf (of_decide_eq_false e))
theorem wc_cond_t {c : Operand} (hc : ev L c = some (.bool true)) (h : WC P x Q n L w) : WC P (.cond c x y) Q n L w :=
 wc_cond hc (fun _ => h) (fun e => by cases e)
theorem wc_cond_f {c : Operand} (hc : ev L c = some (.bool false)) (h : WC P y Q n L w) : WC P (.cond c x y) Q n L w :=
 wc_cond hc (fun e => by cases e) (fun _ => h)
theorem wc_cond_T {c : Operand} {b : Bool} (hc : ev L c = some (.bool b)) (hb : b = true) (h : WC P x Q n L w) : WC P (.cond c x y) Q n L w :=
 wc_cond hc (fun _ => h) (fun e => by rw [hb] at e; cases e)
theorem wc_cond_F {c : Operand} {b : Bool} (hc : ev L c = some (.bool b)) (hb : b = false) (h : WC P y Q n L w) : WC P (.cond c x y) Q n L w :=
 wc_cond hc (fun e => by rw [hb] at e; cases e) (fun _ => h)
/-- The ways through a piece of code meet again: what holds behind it, over letters of your own. -/
theorem wc_cut {σ : Type} {J : σ → World → Prop} {Lj : σ → Env} (hx : WC P x (Exit.then (fun a w => ∃ s, Agree a n (Lj s) ∧ J s w) Q) n L w)
  (hy : ∀ s w', J s w' → WC P y Q n (Lj s) w') : WC P (.seq x y) Q n L w := fun a ha =>
 wp_seq (wp_mono (hx a ha) fun e a' w' h => by
  cases e with
  | normal => obtain ⟨s, h1, h2⟩ := h; exact hy s w' h2 a' h1
  | _ => exact h)
/-- The same behind a piece that is no sequence's first. -/
theorem wc_cutQ {σ : Type} {J : σ → World → Prop} {Lj : σ → Env} (hx : WC P x (Exit.then (fun a w => ∃ s, Agree a n (Lj s) ∧ J s w) Q) n L w)
  (hy : ∀ s w', J s w' → ∀ a, Agree a n (Lj s) → Q .normal a w') : WC P x Q n L w := fun a ha =>
 wp_mono (hx a ha) fun e a' w' h => by
  cases e with
  | normal => obtain ⟨s, h1, h2⟩ := h; exact hy s w' h2 a' h1
  | _ => exact h
/-- A loop: its state is a letter s; at each round's head the frame is Lh s, and J s holds of the world. -/
theorem wc_loop {σ : Type} (meas : σ → Nat) (Lh : σ → Env) (J : σ → World → Prop) (s0 : σ) (h0 : J s0 w) (hL : L.sub (Lh s0))
  (round : ∀ s w', J s w' → WC P x (Exit.then (fun a w'' => ∃ s', meas s' < meas s ∧ Agree a n (Lh s') ∧ J s' w'') Q) n (Lh s) w') : WC P (.loop x) Q n L w := by
 intro a ha b k cs
 have key : ∀ m s a w, meas s = m → J s w → Agree a n (Lh s) →
   ∃ e a' w', Q e a' w' ∧ Arrives P (lone (b.at a (.code x :: .inLoop x :: k)) cs w) b k cs e a' w' := by
  intro m
  induction m using Nat.strongRecOn with
  | _ m ih =>
   intro s a w hm hJ hA
   obtain ⟨e, a₁, w₁, hq, harr⟩ := round s w hJ a hA b (.inLoop x :: k) cs
   cases e with
   | normal =>
    obtain ⟨s', hlt, hA', hJ'⟩ := hq
    obtain ⟨e₂, a₂, w₂, hq₂, harr₂⟩ := ih (meas s') (hm ▸ hlt) s' a₁ w₁ rfl hJ' hA'
    exact ⟨e₂, a₂, w₂, hq₂, .of_steps (Steps.trans harr (.one step_inLoop)) harr₂⟩
   | exit id => exact ⟨_, a₁, w₁, hq, .pass (x := .inLoop x) rfl (fun _ _ => .inl (by simp)) harr⟩
   | goto l => exact ⟨_, a₁, w₁, hq, .pass (x := .inLoop x) rfl (fun _ _ => .inl (by simp)) harr⟩
   | ret => exact ⟨_, a₁, w₁, hq, .pass (x := .inLoop x) rfl (fun _ _ => .inl (by simp)) harr⟩
   | panic ch => exact ⟨_, a₁, w₁, hq, .pass (x := .inLoop x) rfl (fun _ _ => .inl (by simp)) harr⟩
   | outgrown => exact ⟨_, a₁, w₁, hq, .pass (x := .inLoop x) rfl (fun _ _ => .inl (by simp)) harr⟩
 obtain ⟨e, a', w', hq, harr⟩ := key _ s0 a w rfl h0 (ha.sub (Env.sub_get hL))
 exact ⟨e, a', w', hq, .of_steps (.one step_loop) harr⟩
end
/-! A function's beginning and its end. -/
def argEnv : Nat → List Value → Env
 | _, [] => []
 | i, v :: vs => (i, v) :: argEnv (i + 1) vs
theorem argEnv_get : ∀ (vs : List Value) (k i : Nat) (v : Value), (argEnv k vs).get i = some v → k ≤ i ∧ vs[i - k]? = some v
 | [], k, i, v, h => by simp [argEnv, Env.get] at h
 | u :: vs, k, i, v, h => by
  simp only [argEnv, Env.get_cons] at h
  split at h
  ·rename_i e; subst e; simp only [Option.some.injEq] at h; subst h; simp
  ·rename_i e
   obtain ⟨h1, h2⟩ := argEnv_get vs (k + 1) i v h
   refine ⟨by omega, ?_⟩
   have : i - k = (i - (k + 1)) + 1 := by omega
   rw [this]; simpa using h2
section
variable {P : Program} {f : FuncId} {fn : Func} {c : Code} {w : World} {Post : Value → World → Prop}
theorem fn_enter {args : List Value} {n : Nat} (hf : P.funcs[f]? = some fn) (hb : fn.body = some c) (hn : fn.ntmps = n) (hle : Nat.ble args.length n = true)
  (h : WC P c (bodyPost P fn (Ret Post)) ⟨n, []⟩ (argEnv 0 args) w) : Fn P f args.toArray w Post := by
 have hle' : args.length ≤ n := Nat.le_of_ble_eq_true hle
 refine calls_of_wp hf hb (h _ ⟨?_, rfl, fun i v hv => ?_⟩)
 ·simp [hn]; omega
 ·obtain ⟨_, h2⟩ := argEnv_get args 0 i v hv
  simp only [Nat.sub_zero] at h2
  obtain ⟨hlt, hval⟩ := List.getElem?_eq_some_iff.1 h2
  simp [Array.getElem?_append, hlt, hval]
theorem post_ret {a : Act} {n : Nat} {L : Env} {t : Nat} {v : Value} (hr : fn.results = #[.tmp t]) (ha : Agree a ⟨n, []⟩ L) (hv : L.get t = some v) (hp : Post v w) : bodyPost P fn (Ret Post) .ret a w :=
 bodyPost_ret (v := v) (by rw [results_tmp hr, ha.get t v hv]) ha.defers ⟨v, rfl, hp⟩
theorem post_ret0 {a : Act} {n : Nat} {L : Env} (hr : fn.results = #[]) (ha : Agree a ⟨n, []⟩ L) (hp : Post (.tuple #[]) w) : bodyPost P fn (Ret Post) .ret a w :=
 bodyPost_ret (results_none hr _ _ _) ha.defers ⟨_, rfl, hp⟩
theorem post_end0 {a : Act} {n : Nat} {L : Env} (hr : fn.results = #[]) (ha : Agree a ⟨n, []⟩ L) (hp : Post (.tuple #[]) w) : bodyPost P fn (Ret Post) .normal a w :=
 bodyPost_end (results_none hr _ _ _) ha.defers ⟨_, rfl, hp⟩
theorem post_ret2 {a : Act} {n : Nat} {L : Env} {t u : Nat} {v x : Value} (hr : fn.results = #[.tmp t, .tmp u]) (ha : Agree a ⟨n, []⟩ L) (hv : L.get t = some v) (hx : L.get u = some x)
  (hp : Post (.tuple #[v, x]) w) : bodyPost P fn (Ret Post) .ret a w :=
 bodyPost_ret (v := .tuple #[v, x]) (by rw [results_tmp2 hr, ha.get t v hv, ha.get u x hx]) ha.defers ⟨_, rfl, hp⟩
theorem post_ret3 {a : Act} {n : Nat} {L : Env} {t u s : Nat} {v x y : Value} (hr : fn.results = #[.tmp t, .tmp u, .tmp s]) (ha : Agree a ⟨n, []⟩ L) (hv : L.get t = some v) (hx : L.get u = some x) (hy : L.get s = some y)
  (hp : Post (.tuple #[v, x, y]) w) : bodyPost P fn (Ret Post) .ret a w :=
 bodyPost_ret (v := .tuple #[v, x, y]) (by
  have h1 := ha.get t v hv; have h2 := ha.get u x hx; have h3 := ha.get s y hy
  simp only [Array.getD_eq_getD_getElem?] at h1 h2 h3
  simp [results, hr, h1, h2, h3]) ha.defers ⟨_, rfl, hp⟩
end
/-! What is left to do behind a piece of code, by the way in which it was left. -/
def KQ (Q : Exit → Act → World → Prop) (e : Exit) (n : Nd) (L : Env) (w : World) : Prop := ∀ a, Agree a n L → Q e a w
section
variable {P : Program} {Q : Exit → Act → World → Prop} {K : Act → World → Prop} {x y : Code} {n : Nd} {L : Env} {w : World} {id id' : Nat}
theorem q_nil {ops : Array Oper} (h : KQ Q .normal n L w) : WL P ops Q [] n L w := h
theorem q_skip (h : KQ Q .normal n L w) : WC P .skip Q n L w := wc_skip h
theorem q_ret (h : KQ Q .ret n L w) : WC P .ret Q n L w := wc_ret h
theorem q_exit (h : KQ Q (.exit id) n L w) : WC P (.exit id) Q n L w := wc_exit h
theorem k_then (h : WC P y Q n L w) : KQ (Exit.then (y.wp P Q) Q) .normal n L w := h
theorem k_thenR (h : KQ Q .ret n L w) : KQ (Exit.then K Q) .ret n L w := h
theorem k_thenX (h : KQ Q (.exit id) n L w) : KQ (Exit.then K Q) (.exit id) n L w := h
theorem k_block (h : KQ Q .normal n L w) : KQ (Exit.inBlock id Q) .normal n L w := h
theorem k_blockR (h : KQ Q .ret n L w) : KQ (Exit.inBlock id Q) .ret n L w := h
theorem k_blockE (h : KQ Q .normal n L w) : KQ (Exit.inBlock id Q) (.exit id) n L w := fun a ha => by
 simp only [Exit.inBlock, if_true]; exact h a ha
theorem k_blockX (hne : Nat.beq id' id = false) (h : KQ Q (.exit id') n L w) : KQ (Exit.inBlock id Q) (.exit id') n L w := fun a ha => by
 simp only [Exit.inBlock, if_neg (Nat.ne_of_beq_eq_false hne)]; exact h a ha
theorem k_loop {σ : Type} {meas : σ → Nat} {Lh : σ → Env} {J : σ → World → Prop} {s : σ} (s' : σ) (hlt : meas s' < meas s) (hL : L.sub (Lh s')) (hJ : J s' w) : KQ (Exit.then (fun a w'' => ∃ s', meas s' < meas s ∧ Agree a n (Lh s') ∧ J s' w'') Q) .normal n L w :=
 fun _ ha => ⟨s', hlt, ha.sub (Env.sub_get hL), hJ⟩
theorem k_cut {σ : Type} {Lj : σ → Env} {J : σ → World → Prop} (s : σ) (hL : L.sub (Lj s)) (hJ : J s w) : KQ (Exit.then (fun a w => ∃ s, Agree a n (Lj s) ∧ J s w) Q) .normal n L w :=
 fun _ ha => ⟨s, ha.sub (Env.sub_get hL), hJ⟩
/-- A slot's Bool, parted. -/
theorem wl_case {ops : Array Oper} {rest : List Oper} {d : Nat} {b : Bool} (hv : L.get d = some (.bool b)) (ht : b = true → WL P ops Q rest n ((d, .bool true) :: L) w) (hf : b = false → WL P ops Q rest n ((d, .bool false) :: L) w) : WL P ops Q rest n L w := by
 intro a ha
 have hcons : ∀ c, b = c → Agree a n ((d, .bool c) :: L) := fun c e => ⟨ha.size, ha.defers, fun i v hi => by
  rw [Env.get_cons] at hi
  split at hi
  ·rename_i e'; subst e'; rw [← e] at hi; exact ha.get _ _ (hv.trans hi)
  ·exact ha.get i v hi⟩
 cases b with
 | true => exact ht rfl a (hcons true rfl)
 | false => exact hf rfl a (hcons false rfl)
theorem wl_case_d {ops : Array Oper} {rest : List Oper} {d : Nat} {p : Prop} {_ : Decidable p} (hv : L.get d = some (.bool (decide p))) (ht : p → WL P ops Q rest n ((d, .bool true) :: L) w) (hf : ¬ p → WL P ops Q rest n ((d, .bool false) :: L) w) : WL P ops Q rest n L w :=
 wl_case hv (fun e => ht (of_decide_eq_true e)) (fun e => hf (of_decide_eq_false e))
/-- A slot's value, spelt otherwise. -/
theorem wl_spell {ops : Array Oper} {rest : List Oper} {d : Nat} {v v' : Value} (hv : L.get d = some v) (he : v = v') (h : WL P ops Q rest n ((d, v') :: L) w) : WL P ops Q rest n L w := by
 subst he
 intro a ha
 refine h a ⟨ha.size, ha.defers, fun i u hi => ?_⟩
 rw [Env.get_cons] at hi
 split at hi
 ·rename_i e'; subst e'; exact ha.get _ _ (hv.trans hi)
 ·exact ha.get i u hi
end
section
variable {P : Program} {fn : Func} {w : World} {Post : Value → World → Prop} {n : Nat} {L : Env}
theorem e_ret {t : Nat} {v : Value} (hr : fn.results = #[.tmp t]) (hv : L.get t = some v) (hp : Post v w) : KQ (bodyPost P fn (Ret Post)) .ret ⟨n, []⟩ L w := fun _ ha => post_ret hr ha hv hp
theorem e_ret0 (hr : fn.results = #[]) (hp : Post (.tuple #[]) w) : KQ (bodyPost P fn (Ret Post)) .ret ⟨n, []⟩ L w := fun _ ha => post_ret0 hr ha hp
theorem e_end0 (hr : fn.results = #[]) (hp : Post (.tuple #[]) w) : KQ (bodyPost P fn (Ret Post)) .normal ⟨n, []⟩ L w := fun _ ha => post_end0 hr ha hp
theorem e_ret2 {t u : Nat} {v x : Value} (hr : fn.results = #[.tmp t, .tmp u]) (hv : L.get t = some v) (hx : L.get u = some x) (hp : Post (.tuple #[v, x]) w) : KQ (bodyPost P fn (Ret Post)) .ret ⟨n, []⟩ L w := fun _ ha => post_ret2 hr ha hv hx hp
theorem e_ret3 {t u s : Nat} {v x y : Value} (hr : fn.results = #[.tmp t, .tmp u, .tmp s]) (hv : L.get t = some v) (hx : L.get u = some x) (hy : L.get s = some y) (hp : Post (.tuple #[v, x, y]) w) : KQ (bodyPost P fn (Ret Post)) .ret ⟨n, []⟩ L w := fun _ ha => post_ret3 hr ha hv hx hy hp
end
/-! Panics, and calls that are deferred. -/
section
variable {P : Program} {ops : Array Oper} {Q : Exit → Act → World → Prop} {K : Act → World → Prop} {o : Oper} {rest : List Oper} {n : Nd} {L : Env} {w : World} {id : Nat} {ch : List PanicEntry}
end
end Go.Proofs.YtiighkbehiddkaaGreat