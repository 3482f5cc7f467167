/-
  A region that draws its order of evaluation, walked by facts: each operation of its main part gets a fact on its slot that steps which only make memory keep; the operations behind the main part go one by one. Plain laws, over any program. No condition.
-/
import Derived.Test.YtopfjpkjpmdhaaaMake
namespace Go.Proofs.Ytopfjpkjpmdhaaa
open Go.RowKit
set_option linter.unusedVariables false

abbrev Pred := Value → World → Prop

def depsOf (ops : Array Oper) (i : Nat) : List Nat := match ops[i]? with
  | some o => (o.after.toList.filter (Region.binds .any)).map (·.on)
  | none => []
/-- All that an operation waits for: its own edges and those of what it waits for. -/
def clo (D : Nat → List Nat) : Nat → List Nat → List Nat
  | 0, l => l
  | i + 1, l => clo D i (if l.contains i then l ++ D i else l)
def dstOf (ops : Array Oper) (i : Nat) : Option Nat := (ops[i]?).bind (·.dst)
/-- 'mu': the operations that may write memory that was there; 'fr': the facts that only steps keep that make memory; 'kept': the facts that hold at the end. -/
def mixOk (n : Nat) (ops : Array Oper) (m : Nat) (ds : List Nat) (needs : List (List Nat)) (fr mu kept : List Bool) (solo : Bool) : Bool :=
  ((List.range m).all fun i => (List.range m).all fun k => !solo || !mu.getD i false || !mu.getD k false || Nat.beq i k) &&
  ((List.range m).all fun i => (needs.getD i []).all fun j => !fr.getD j false || ((List.range m).all fun k => !mu.getD k false || Nat.beq k j || Nat.beq k i || (clo (depsOf ops) j (depsOf ops j)).contains k || (clo (depsOf ops) k (depsOf ops k)).contains i)) &&
  ((List.range m).all fun j => !kept.getD j false || !fr.getD j false || ((List.range m).all fun k => !mu.getD k false || Nat.beq k j || (clo (depsOf ops) j (depsOf ops j)).contains k)) &&
  Nat.ble m ops.size && Nat.beq ds.length m && Nat.beq needs.length m &&
  ((List.range ops.size).all fun i => (depsOf ops i).all fun j => Nat.blt j i) &&
  ((List.range m).all fun i => match dstOf ops i, ds[i]? with | some d, some d' => Nat.beq d d' && Nat.blt d n | none, some d' => Nat.ble n d' | _, _ => false) &&
  ((List.range ops.size).all fun t => Nat.blt t m || (let c := clo (depsOf ops) t (depsOf ops t); (List.range t).all fun j => c.contains j)) &&
  ((List.range m).all fun i => let c := clo (depsOf ops) i (depsOf ops i); (needs.getD i []).all fun j => c.contains j && Nat.blt j m) &&
  ((List.range m).all fun i => (List.range m).all fun j => Nat.beq i j || !Nat.beq (ds.getD i 0) (ds.getD j 0))

theorem clo_sound (D : Nat → List Nat) (p : Nat → Prop) (hp : ∀ j, p j → ∀ k ∈ D j, p k) : ∀ (i : Nat) (l : List Nat), (∀ k ∈ l, p k) → ∀ x ∈ clo D i l, p x
  | 0, l, h, x, hx => h x hx
  | i + 1, l, h, x, hx => by
    simp only [clo] at hx
    refine clo_sound D p hp i _ ?_ x hx
    split
    · rename_i hc
      intro k hk
      rcases List.mem_append.1 hk with hk | hk
      · exact h k hk
      · exact hp i (h i (by simpa using hc)) k hk
    · exact h

def AllN (F : List (Nat × Pred)) (w : World) (K : Env → Prop) : List Nat → Env → Prop
  | [], L => K L
  | j :: js, L => match F[j]? with
    | some (d, φ) => ∀ v, φ v w → AllN F w K js ((d, v) :: L)
    | none => AllN F w K js L
def AllF (w : World) (K : Env → Prop) : List (Nat × Pred) → List Bool → Env → Prop
  | [], _, L => K L
  | (d, φ) :: F, true :: ks, L => ∀ v, φ v w → AllF w K F ks ((d, v) :: L)
  | (d, _) :: F, _ :: ks, L => ∀ v, AllF w K F ks ((d, v) :: L)
  | (d, _) :: F, [], L => ∀ v, AllF w K F [] ((d, v) :: L)
def StbR (R : World → World → Prop) (φ : Pred) : Prop := ∀ v w w', φ v w → R w w' → φ v w'
abbrev Stb (φ : Pred) : Prop := StbR Ext φ
def AllStb (R : World → World → Prop) : List (Nat × Pred) → List Bool → Prop
  | [], _ => True
  | (_, φ) :: F, true :: fr => Stb φ ∧ AllStb R F fr
  | (_, φ) :: F, _ :: fr => StbR R φ ∧ AllStb R F fr
  | (_, φ) :: F, [] => StbR R φ ∧ AllStb R F []
theorem allStb_get {R : World → World → Prop} : ∀ {F : List (Nat × Pred)} {fr : List Bool}, AllStb R F fr → ∀ (i d : Nat) (φ : Pred), F[i]? = some (d, φ) → if fr.getD i false = true then Stb φ else StbR R φ
  | [], _, _, i, d, φ, h => by simp at h
  | (d', φ') :: F, true :: fr, hs, 0, d, φ, h => by simp at h; obtain ⟨rfl, rfl⟩ := h; simpa using hs.1
  | (d', φ') :: F, false :: fr, hs, 0, d, φ, h => by simp at h; obtain ⟨rfl, rfl⟩ := h; simpa using hs.1
  | (d', φ') :: F, [], hs, 0, d, φ, h => by simp at h; obtain ⟨rfl, rfl⟩ := h; simpa using hs.1
  | (d', φ') :: F, true :: fr, hs, i + 1, d, φ, h => by simpa using allStb_get hs.2 i d φ (by simpa using h)
  | (d', φ') :: F, false :: fr, hs, i + 1, d, φ, h => by simpa using allStb_get hs.2 i d φ (by simpa using h)
  | (d', φ') :: F, [], hs, i + 1, d, φ, h => by simpa using allStb_get hs.2 i d φ (by simpa using h)

/-- What an operation leaves in its slot; one without a slot leaves nothing (its fact's slot is a number past the last). -/
def dstVal (o : Oper) (v : Value) : Value := match o.dst with
  | some _ => v
  | none => undef
/-- An operation with its guard. -/
def OpG (P : Program) (ops : Array Oper) (o : Oper) (L : Env) (w : World) (Post : Pred) : Prop :=
  ∀ (a : Act) (n : Nd) (K : Act → World → Prop) (Q : Exit → Act → World → Prop), Agree a n L → (∀ v w', Post v w' → K (a.put o.dst v) w') →
    if Region.wanted o (yielded ops a.tmps) then o.wp P a w K Q else K (a.put o.dst undef) w

section
variable {P : Program} {ops : Array Oper} {o : Oper} {L : Env} {w : World} {Post : Pred}
theorem og_plain (hg : o.guard = none) (h : OpRun P o L w Post) : OpG P ops o L w Post := fun a n K Q ha hk => by
  rw [if_pos (by simp [Region.wanted, hg])]; exact h a n K Q ha hk
theorem og_on {j dj : Nat} {b : Bool} (hg : o.guard = some (j, b)) (hj : (ops[j]?).bind (·.dst) = some dj) (hb : L.get dj = some (.bool b)) (h : OpRun P o L w Post) : OpG P ops o L w Post := fun a n K Q ha hk => by
  rw [if_pos (by simp [Region.wanted, hg, ha.yield hj hb])]; exact h a n K Q ha hk
theorem og_off {j dj : Nat} {b c : Bool} (hg : o.guard = some (j, b)) (hj : (ops[j]?).bind (·.dst) = some dj) (hb : L.get dj = some (.bool c)) (hne : c = !b) (h : Post undef w) : OpG P ops o L w Post := fun a n K Q ha hk => by
  rw [if_neg (by simp [Region.wanted, hg, ha.yield hj hb, hne])]; exact hk _ _ h
theorem og_offU {j dj : Nat} {b : Bool} (hg : o.guard = some (j, b)) (hj : (ops[j]?).bind (·.dst) = some dj) (hb : L.get dj = some undef) (h : Post undef w) : OpG P ops o L w Post := fun a n K Q ha hk => by
  have hy : yielded ops a.tmps j = none := by
    have h1 := ha.get dj _ hb
    rw [Array.getD_eq_getD_getElem?] at h1
    unfold yielded
    rw [hj]
    simp only [Option.bind_some]
    cases hc : a.tmps[dj]? with
    | none => rfl
    | some u => rw [hc] at h1; simp only [Option.getD_some] at h1; subst h1; rfl
  rw [if_neg (by simp [Region.wanted, hg, hy])]; exact hk _ _ h
/-- What yields a known value and leaves the world. -/
theorem ox_val {c : Value} (h : OpVal P o L w c) : OpRun P o L w fun v w' => v = c ∧ Ext w w' := h.mono fun _ _ ⟨hv, hw⟩ => ⟨hv, by subst hw; exact ext_refl _⟩
end

theorem ox_T {P : Program} {o : Oper} {L : Env} {w : World} {p : Prop} {_ : Decidable p} (hp : p) (h : OpVal P o L w (.bool (decide p))) : OpRun P o L w fun v w' => v = .bool true ∧ Ext w w' := h.mono fun _ _ ⟨hv, hw⟩ => ⟨by rw [hv, decide_eq_true hp], by subst hw; exact ext_refl _⟩
theorem ox_F {P : Program} {o : Oper} {L : Env} {w : World} {p : Prop} {_ : Decidable p} (hp : ¬ p) (h : OpVal P o L w (.bool (decide p))) : OpRun P o L w fun v w' => v = .bool false ∧ Ext w w' := h.mono fun _ _ ⟨hv, hw⟩ => ⟨by rw [hv, decide_eq_false hp], by subst hw; exact ext_refl _⟩
theorem ox_spell {P : Program} {o : Oper} {L : Env} {w : World} {c c' : Value} (hc : c = c') (h : OpVal P o L w c) : OpRun P o L w fun v w' => v = c' ∧ Ext w w' := h.mono fun _ _ ⟨hv, hw⟩ => ⟨by rw [hv, hc], by subst hw; exact ext_refl _⟩
/-- The obligations, one for each operation of the main part. -/
def Obs (P : Program) (R : World → World → Prop) (mu : List Bool) (solo : Bool) (ops : Array Oper) (L : Env) (w : World) (F : List (Nat × Pred)) : Nat → List (List Nat) → Prop
  | _, [] => True
  | i, need :: rest => (∀ w', (bif solo && mu.getD i false then Ext w w' else R w w') → AllN F w' (fun L' => match ops[i]?, F[i]? with
      | some o, some (_, φ) => OpG P ops o L' w' fun v w'' => φ (dstVal o v) w'' ∧ bif mu.getD i false then R w' w'' else Ext w' w''
      | _, _ => False) need L) ∧ Obs P R mu solo ops L w F (i + 1) rest

theorem obs_get {P : Program} {R : World → World → Prop} {mu : List Bool} {solo : Bool} {ops : Array Oper} {L : Env} {w : World} {F : List (Nat × Pred)} : ∀ (needs : List (List Nat)) (k i : Nat), Obs P R mu solo ops L w F k needs → i < needs.length → ∀ w', (bif solo && mu.getD (k + i) false then Ext w w' else R w w') → AllN F w' (fun L' => match ops[k + i]?, F[k + i]? with
      | some o, some (_, φ) => OpG P ops o L' w' fun v w'' => φ (dstVal o v) w'' ∧ bif mu.getD (k + i) false then R w' w'' else Ext w' w''
      | _, _ => False) (needs.getD i []) L
  | [], k, i, _, hi, _, _ => by simp at hi
  | need :: rest, k, 0, h, _, w', hw => by simpa using h.1 w' hw
  | need :: rest, k, i + 1, h, hi, w', hw => by
    rw [show k + (i + 1) = k + 1 + i by omega] at hw ⊢
    simpa using obs_get rest (k + 1) i h.2 (by simpa using hi) w' hw

theorem allN_use {F : List (Nat × Pred)} {w : World} {K : Env → Prop} {a : Act} {n : Nd} : ∀ (js : List Nat) (L : Env), AllN F w K js L → Agree a n L → (∀ j ∈ js, ∀ (d : Nat) (φ : Pred), F[j]? = some (d, φ) → φ (a.tmps.getD d undef) w) → ∃ L', K L' ∧ Agree a n L'
  | [], L, h, ha, _ => ⟨L, h, ha⟩
  | j :: js, L, h, ha, hf => by
    simp only [AllN] at h
    cases hj : F[j]? with
    | none => rw [hj] at h; exact allN_use js L h ha fun k hk => hf k (by simp [hk])
    | some p =>
      obtain ⟨d, φ⟩ := p
      rw [hj] at h
      refine allN_use js _ (h _ (hf j (by simp) d φ hj)) ⟨ha.size, ha.defers, fun i v hi => ?_⟩ fun k hk => hf k (by simp [hk])
      rw [Env.get_cons] at hi
      split at hi
      · rename_i e; subst e; simpa using hi
      · exact ha.get i v hi
theorem allF_use {w : World} {K : Env → Prop} {a : Act} {n : Nd} : ∀ (F : List (Nat × Pred)) (ks : List Bool) (L : Env), AllF w K F ks L → Agree a n L → (∀ (i d : Nat) (φ : Pred), F[i]? = some (d, φ) → ks.getD i false = true → φ (a.tmps.getD d undef) w) → ∃ L', K L' ∧ Agree a n L'
  | [], _, L, h, ha, _ => ⟨L, h, ha⟩
  | (d, φ) :: F, ks, L, h, ha, hf => by
    have hA : Agree a n ((d, a.tmps.getD d undef) :: L) := ⟨ha.size, ha.defers, fun i v hi => by
      rw [Env.get_cons] at hi
      split at hi
      · rename_i e; subst e; simpa using hi
      · exact ha.get i v hi⟩
    rcases ks with _ | ⟨_ | _, ks⟩
    · exact allF_use F [] _ (h _) hA fun i d' φ' hi hk => by simp at hk
    · exact allF_use F ks _ (h _) hA fun i d' φ' hi hk => hf (i + 1) d' φ' (by simpa using hi) (by simpa using hk)
    · exact allF_use F ks _ (h _ (hf 0 d φ rfl rfl)) hA fun i d' φ' hi hk => hf (i + 1) d' φ' (by simpa using hi) (by simpa using hk)

theorem ready_mem {ops : Array Oper} {listed : Array Bool} {i : Nat} (hs : listed.size = ops.size) : i ∈ Region.ready .any ops listed ↔ i < ops.size ∧ listed.getD i false = false ∧ ∀ k ∈ depsOf ops i, listed.getD k false = true := by
  simp only [Region.ready, List.mem_filter, List.mem_range, Bool.and_eq_true, Bool.not_eq_true']
  constructor
  · rintro ⟨hi, hl, hd⟩
    have hg : listed.getD i true = listed.getD i false := by simp [Array.getD_eq_getD_getElem?, Array.getElem?_eq_getElem (show i < listed.size by omega)]
    refine ⟨hi, by rw [← hg]; exact hl, fun k hk => ?_⟩
    simp only [depsOf, Array.getElem?_eq_getElem hi, List.mem_map, List.mem_filter] at hk
    obtain ⟨e, ⟨he, hb⟩, rfl⟩ := hk
    simp only [Array.getElem?_eq_getElem hi, Option.map_some, Option.getD_some, Array.all_eq_true'] at hd
    have := hd e (by simpa using he)
    simpa [hb] using this
  · rintro ⟨hi, hl, hd⟩
    have hg : listed.getD i true = listed.getD i false := by simp [Array.getD_eq_getD_getElem?, Array.getElem?_eq_getElem (show i < listed.size by omega)]
    refine ⟨hi, by rw [hg]; exact hl, ?_⟩
    simp only [Array.getElem?_eq_getElem hi, Option.map_some, Option.getD_some, Array.all_eq_true']
    intro e he
    cases hb : Region.binds .any e with
    | false => simp
    | true =>
      have := hd e.on (by simp only [depsOf, Array.getElem?_eq_getElem hi, List.mem_map, List.mem_filter]; exact ⟨e, ⟨by simpa using he, hb⟩, rfl⟩)
      simp [this]

theorem getD_set (l : Array Bool) (i j : Nat) (hi : i < l.size) : (l.setIfInBounds i true).getD j false = if i = j then true else l.getD j false := by
  simp only [Array.getD_eq_getD_getElem?, Array.getElem?_setIfInBounds]
  split
  · rename_i e; subst e; simp
  · rfl

theorem countP_drop (l : List Nat) (hnd : l.Nodup) (p q : Nat → Bool) (i : Nat) (hi : i ∈ l) (hp : p i = true) (hq : q i = false) (hne : ∀ j, j ≠ i → q j = p j) : l.countP q + 1 = l.countP p := by
  induction l with
  | nil => simp at hi
  | cons x l ih =>
    rw [List.nodup_cons] at hnd
    by_cases hx : x = i
    · subst hx
      have : l.countP q = l.countP p := List.countP_congr fun j hj => by rw [hne j (fun e => hnd.1 (e ▸ hj))]
      simp [hp, hq, this]
    · have hi' : i ∈ l := by rcases List.mem_cons.1 hi with h | h; exact absurd h.symm hx; exact h
      have := ih hnd.2 hi'
      rw [List.countP_cons, List.countP_cons, hne x hx]
      omega

section
variable {P : Program} {ops : Array Oper} {Q : Exit → Act → World → Prop}

/-- The tail: one by one. -/
theorem tail_ok (hlt : ∀ i, i < ops.size → ∀ j ∈ depsOf ops i, j < i) (m : Nat) (hcl : ∀ t, m ≤ t → t < ops.size → ∀ j, j < t → j ∈ clo (depsOf ops) t (depsOf ops t)) :
    ∀ (k t fuel : Nat) (listed : Array Bool) (a : Act) (w : World), ops.size - t = k → m ≤ t → t ≤ ops.size → k ≤ fuel → listed.size = ops.size → (∀ j, j < ops.size → (listed.getD j false = true ↔ j < t)) →
      wpList P ops Q (ops.toList.drop t) a w → wpAny P .any ops Q fuel listed a w
  | 0, t, fuel, listed, a, w, hk, hm, ht, hf, hs, hl, h => by
    have e : t = ops.size := by omega
    subst e
    have hr : Region.ready .any ops listed = [] := by
      rcases hr : Region.ready .any ops listed with _ | ⟨i, r⟩
      · rfl
      · have := (ready_mem hs).1 (show i ∈ Region.ready .any ops listed by rw [hr]; simp)
        have h1 := (hl i this.1).2 this.1
        rw [this.2.1] at h1; cases h1
    have hq : Q .normal a w := by
      rw [List.drop_of_length_le (by simp)] at h; exact h
    cases fuel with
    | zero => exact ⟨hr, hq⟩
    | succ fuel => exact ⟨fun _ => hq, fun i hi => by rw [hr] at hi; simp at hi⟩
  | k + 1, t, fuel, listed, a, w, hk, hm, ht, hf, hs, hl, h => by
    have htl : t < ops.size := by omega
    obtain ⟨fuel, rfl⟩ : ∃ f, fuel = f + 1 := ⟨fuel - 1, by omega⟩
    have hdc : ∀ j, listed.getD j false = true → ∀ x ∈ depsOf ops j, listed.getD x false = true := by
      intro j hj x hx
      by_cases hjl : j < ops.size
      · have h1 := (hl j hjl).1 hj
        have h2 := hlt j hjl x hx
        exact (hl x (by omega)).2 (by omega)
      · have : depsOf ops j = [] := by simp [depsOf, Array.getElem?_eq_none (Nat.le_of_not_lt hjl)]
        rw [this] at hx; simp at hx
    have htr : t ∈ Region.ready .any ops listed := (ready_mem hs).2 ⟨htl, by
      cases hb : listed.getD t false with
      | false => rfl
      | true => exact absurd ((hl t htl).1 hb) (Nat.lt_irrefl _), fun x hx => by have := hlt t htl x hx; exact (hl x (by omega)).2 this⟩
    refine ⟨fun e => by rw [e] at htr; simp at htr, fun i hi => ?_⟩
    have hit : i = t := by
      have h1 := (ready_mem hs).1 hi
      rcases Nat.lt_trichotomy i t with hlt' | e | hgt
      · have := (hl i h1.1).2 hlt'; rw [h1.2.1] at this; cases this
      · exact e
      · have hall := clo_sound (depsOf ops) (fun x => listed.getD x false = true) hdc i (depsOf ops i) h1.2.2 t (hcl i (by omega) h1.1 t hgt)
        have := (hl t htl).1 hall
        omega
    subst hit
    have hdrop : ops.toList.drop i = ops[i] :: ops.toList.drop (i + 1) := by
      rw [List.drop_eq_getElem_cons (by simpa using htl)]; simp
    rw [hdrop] at h
    have hnext : ∀ a' w', wpList P ops Q (ops.toList.drop (i + 1)) a' w' → wpAny P .any ops Q fuel (listed.setIfInBounds i true) a' w' := by
      intro a' w' h'
      refine tail_ok hlt m hcl k (i + 1) fuel _ a' w' (by omega) (by omega) (by omega) (by omega) (by simpa using hs) (fun j hj => ?_) h'
      rw [getD_set _ _ _ (by omega)]
      split
      · rename_i e; subst e; simp
      · rename_i hne; rw [hl j hj]; omega
    unfold wpOp
    simp only [Array.getElem?_eq_getElem htl]
    simp only [wpList] at h
    split at h
    · rename_i hw; rw [if_pos hw]; exact h.imp (Oper.wp_mono hnext) id
    · rename_i hw; rw [if_neg hw]; exact hnext _ _ h

theorem wc_drawR {id : Nat} (hm : P.follows .mixedOrders = true) (R : World → World → Prop) (hR1 : ∀ a b, Ext a b → R a b) (hR2 : ∀ a b c, R a b → R b c → R a c) (m : Nat) (F : List (Nat × Pred)) (needs : List (List Nat)) (fr mu kept : List Bool) (solo : Bool) {n : Nd} {L : Env} {w : World}
    (hok : mixOk n.n ops m (F.map (·.1)) needs fr mu kept solo = true) (hL : F.all (fun p => (L.get p.1).isNone) = true) (hst : AllStb R F fr) (hop : Obs P R mu solo ops L w F 0 needs)
    (hfin : ∀ w', R w w' → AllF w' (fun L' => WL P ops Q (ops.toList.drop m) n L' w') F kept L) : WC P (.region id ops true) Q n L w := by
  intro a ha
  refine wp_region_any hm ?_
  simp only [mixOk, Bool.and_eq_true, List.all_eq_true, List.mem_range, Bool.or_eq_true] at hok
  obtain ⟨⟨⟨⟨⟨⟨⟨⟨⟨⟨hsolo, hfrn⟩, hkept⟩, hmle⟩, hFl⟩, hnl⟩, hd⟩, hds⟩, hcl⟩, hnd⟩, hdist⟩ := hok
  have hmle : m ≤ ops.size := Nat.le_of_ble_eq_true hmle
  have hFl : F.length = m := by simpa using Nat.eq_of_beq_eq_true hFl
  have hnl : needs.length = m := Nat.eq_of_beq_eq_true hnl
  have hlt : ∀ i, i < ops.size → ∀ j ∈ depsOf ops i, j < i := fun i hi j hj => Nat.le_of_ble_eq_true (hd i hi j hj)
  have hcl' : ∀ t, m ≤ t → t < ops.size → ∀ j, j < t → j ∈ clo (depsOf ops) t (depsOf ops t) := by
    intro t ht hts j hj
    rcases hcl t hts with h | h
    · have := Nat.le_of_ble_eq_true h; omega
    · simpa using h j hj
  have hFget : ∀ i, i < m → ∃ (d : Nat) (φ : Pred), F[i]? = some (d, φ) ∧ ((dstOf ops i = some d ∧ d < n.n) ∨ (dstOf ops i = none ∧ n.n ≤ d)) := by
    intro i hi
    have h := hds i hi
    have hget : F[i]? = some F[i] := List.getElem?_eq_getElem (by omega)
    refine ⟨F[i].1, F[i].2, hget, ?_⟩
    rw [List.getElem?_map, hget] at h
    simp only [Option.map_some] at h
    cases hdo : dstOf ops i with
    | none => rw [hdo] at h; simp only at h; exact .inr ⟨rfl, Nat.le_of_ble_eq_true h⟩
    | some d =>
      rw [hdo] at h
      simp only [Bool.and_eq_true] at h
      have e := Nat.eq_of_beq_eq_true h.1
      subst e
      exact .inl ⟨rfl, Nat.le_of_ble_eq_true h.2⟩
  have hFd : ∀ (i j d d' : Nat) (φ φ' : Pred), F[i]? = some (d, φ) → F[j]? = some (d', φ') → i ≠ j → d ≠ d' := by
    intro i j d d' φ φ' hi hj hne e
    have hil : i < m := by rw [← hFl]; exact (List.getElem?_eq_some_iff.1 hi).1
    have hjl : j < m := by rw [← hFl]; exact (List.getElem?_eq_some_iff.1 hj).1
    rcases hdist i hil j hjl with h | h
    · exact hne (Nat.eq_of_beq_eq_true h)
    · simp [List.getD, List.getElem?_map, hi, hj] at h; exact Nat.ne_of_beq_eq_false h e
  have hLn : ∀ (i d : Nat) (φ : Pred), F[i]? = some (d, φ) → L.get d = none := by
    intro i d φ hi
    have := List.all_eq_true.1 hL (d, φ) (List.mem_of_getElem? hi)
    simpa only [Option.isNone_iff_eq_none] using this
  have hfrn' : ∀ i, i < m → ∀ j ∈ needs.getD i [], fr.getD j false = true → ∀ k, k < m → mu.getD k false = true → k = j ∨ k = i ∨ k ∈ clo (depsOf ops) j (depsOf ops j) ∨ i ∈ clo (depsOf ops) k (depsOf ops k) := by
    intro i hi j hj hf k hk hmu
    rcases hfrn i hi j hj with h | h
    · rw [hf] at h; exact absurd h (by decide)
    · rcases h k hk with h | h
      · rcases h with h | h
        · rcases h with h | h
          · rcases h with h | h
            · rw [hmu] at h; exact absurd h (by decide)
            · exact .inl (Nat.eq_of_beq_eq_true h)
          · exact .inr (.inl (Nat.eq_of_beq_eq_true h))
        · exact .inr (.inr (.inl (by simpa using h)))
      · exact .inr (.inr (.inr (by simpa using h)))
  have hkept' : ∀ j, j < m → kept.getD j false = true → fr.getD j false = true → ∀ k, k < m → mu.getD k false = true → k = j ∨ k ∈ clo (depsOf ops) j (depsOf ops j) := by
    intro j hj hkp hf k hk hmu
    rcases hkept j hj with h | h
    · rcases h with h | h
      · rw [hkp] at h; exact absurd h (by decide)
      · rw [hf] at h; exact absurd h (by decide)
    · rcases h k hk with h | h
      · rcases h with h | h
        · rw [hmu] at h; exact absurd h (by decide)
        · exact .inl (Nat.eq_of_beq_eq_true h)
      · exact .inr (by simpa using h)
  have hsolo' : solo = true → ∀ i, i < m → mu.getD i false = true → ∀ k, k < m → mu.getD k false = true → i = k := by
    intro hs i hi hmi k hk hmk
    rcases hsolo i hi k hk with h | h
    · rw [hs, hmi, hmk] at h; exact absurd h (by decide)
    · exact Nat.eq_of_beq_eq_true h
  -- the main part
  have main : ∀ (c fuel : Nat) (listed : Array Bool) (a : Act) (w' : World), (List.range m).countP (fun j => !listed.getD j false) = c → (ops.size - m) + c ≤ fuel → listed.size = ops.size →
      (∀ t, m ≤ t → listed.getD t false = false) → (∀ j, listed.getD j false = true → ∀ x ∈ depsOf ops j, listed.getD x false = true) → R w w' → (solo = true → (∀ k, k < m → mu.getD k false = true → listed.getD k false = false) → Ext w w') → Agree a n L →
      (∀ (i d : Nat) (φ : Pred), F[i]? = some (d, φ) → listed.getD i false = true → (fr.getD i false = true → ∀ k, k < m → mu.getD k false = true → listed.getD k false = true → k = i ∨ k ∈ clo (depsOf ops) i (depsOf ops i)) → φ (a.tmps.getD d undef) w') → wpAny P .any ops Q fuel listed a w' := by
    intro c
    induction c with
    | zero =>
      intro fuel listed a w' hc hf hs ht hdc hE hS hA hfac
      have hall : ∀ j, j < m → listed.getD j false = true := by
        intro j hj
        have := List.countP_eq_zero.1 hc j (by simpa using hj)
        simpa using this
      obtain ⟨L', hW, hA'⟩ := allF_use F kept L (hfin w' hE) hA (fun i d φ hi hkp => by
        have him : i < m := by rw [← hFl]; exact (List.getElem?_eq_some_iff.1 hi).1
        exact hfac i d φ hi (hall i him) (fun hf k hk hmu _ => hkept' i him hkp hf k hk hmu))
      exact tail_ok hlt m hcl' (ops.size - m) m fuel listed a w' rfl (Nat.le_refl _) hmle (by omega) hs (fun j hj => ⟨(fun h => by
        rcases Nat.lt_or_ge j m with h' | h'
        · exact h'
        · rw [ht j h'] at h; cases h), hall j⟩) (hW a hA')
    | succ c ih =>
      intro fuel listed a w' hc hf hs ht hdc hE hS hA hfac
      obtain ⟨fuel, rfl⟩ : ∃ f, fuel = f + 1 := ⟨fuel - 1, by omega⟩
      -- some operation of the main part is not listed; the least such is ready
      have hex : ∃ j, j < m ∧ listed.getD j false = false := by
        rcases Classical.em (∃ j, j < m ∧ listed.getD j false = false) with h | h
        · exact h
        · exfalso
          have : (List.range m).countP (fun j => !listed.getD j false) = 0 := by
            rw [List.countP_eq_zero]
            intro j hj
            have hj' : j < m := by simpa using hj
            cases hb : listed.getD j false with
            | true => simp
            | false => exact absurd ⟨j, hj', hb⟩ h
          omega
      have hready : ∃ j, j ∈ Region.ready .any ops listed := by
        obtain ⟨j, hj⟩ := hex
        have key : ∀ j, (j < m ∧ listed.getD j false = false) → ∃ k, k ∈ Region.ready .any ops listed := by
          intro j
          induction j using Nat.strongRecOn with
          | _ j ihj =>
            rintro ⟨hjm, hjf⟩
            by_cases hd' : ∀ x ∈ depsOf ops j, listed.getD x false = true
            · exact ⟨j, (ready_mem hs).2 ⟨by omega, hjf, hd'⟩⟩
            · obtain ⟨x, hx⟩ := Classical.not_forall.1 hd'
              obtain ⟨hx1, hx2⟩ := Classical.not_imp.1 hx
              have := hlt j (by omega) x hx1
              exact ihj x this ⟨by omega, by simpa using hx2⟩
        exact key j hj
      refine ⟨fun e => by obtain ⟨j, hj⟩ := hready; rw [e] at hj; simp at hj, fun i hi => ?_⟩
      obtain ⟨his, hif, hid⟩ := (ready_mem hs).1 hi
      have him : i < m := by
        rcases Nat.lt_or_ge i m with h | h
        · exact h
        · exfalso
          obtain ⟨j, hjm, hjf⟩ := hex
          have := clo_sound (depsOf ops) (fun x => listed.getD x false = true) hdc i (depsOf ops i) hid j (hcl' i h his j (by omega))
          simp only [hjf] at this
          cases this
      obtain ⟨d, φ, hFi, hdi⟩ := hFget i him
      have hEi : bif solo && mu.getD (0 + i) false then Ext w w' else R w w' := by
        rw [Nat.zero_add]
        cases hso : solo with
        | false => exact hE
        | true =>
          cases hmi : mu.getD i false with
          | false => exact hE
          | true => exact hS hso fun k hk hmk => by rw [← hsolo' hso i him hmi k hk hmk]; exact hif
      have hob := obs_get needs 0 i hop (by omega) w' hEi
      simp only [Nat.zero_add, Array.getElem?_eq_getElem his, hFi] at hob
      obtain ⟨L', hG, hA'⟩ := allN_use (needs.getD i []) L hob hA (fun j hj d' φ' hFj => by
        have h1 := hnd i him j hj
        have hjc : j ∈ clo (depsOf ops) i (depsOf ops i) := by simpa using h1.1
        refine hfac j d' φ' hFj (clo_sound (depsOf ops) (fun x => listed.getD x false = true) hdc i (depsOf ops i) hid j hjc) (fun hf k hk hmu hkl => ?_)
        rcases hfrn' i him j hj hf k hk hmu with h | h | h | h
        · exact .inl h
        · subst h; rw [hif] at hkl; cases hkl
        · exact .inr h
        · have := clo_sound (depsOf ops) (fun x => listed.getD x false = true) hdc k (depsOf ops k) (hdc k hkl) i h
          simp only [hif] at this; cases this)
      have hdst : (ops[i].dst = some d ∧ d < n.n) ∨ (ops[i].dst = none ∧ n.n ≤ d) := by
        simp only [dstOf, Array.getElem?_eq_getElem his, Option.bind_some] at hdi; exact hdi
      have hnext : ∀ v w'', (φ (dstVal ops[i] v) w'' ∧ bif mu.getD i false then R w' w'' else Ext w' w'') → wpAny P .any ops Q fuel (listed.setIfInBounds i true) (a.put ops[i].dst v) w'' := by
        rintro v w'' ⟨hv, hE2⟩
        have hE' : R w' w'' := by
          cases hmu : mu.getD i false with
          | true => rw [hmu] at hE2; exact hE2
          | false => rw [hmu] at hE2; exact hR1 _ _ hE2
        have hget : ∀ s, (a.put ops[i].dst v).tmps.getD s undef = if d = s then dstVal ops[i] v else a.tmps.getD s undef := by
          intro s
          rcases hdst with ⟨e1, hdn⟩ | ⟨e1, hdn⟩
          · simp only [dstVal, e1]
            by_cases e : d = s
            · subst e
              have : d < a.tmps.size := by rw [hA.size]; exact hdn
              simp [Act.put, this]
            · simp [Act.put, Array.getD_eq_getD_getElem?, Array.getElem?_setIfInBounds_ne e, e]
          · simp only [dstVal, e1]
            by_cases e : d = s
            · subst e
              have : a.tmps.size ≤ d := by rw [hA.size]; exact hdn
              simp [Act.put, Array.getD_eq_getD_getElem?, Array.getElem?_eq_none this]
            · simp [Act.put, e]
        have hputs : (a.put ops[i].dst v).tmps.size = n.n := by
          rcases hdst with ⟨e1, _⟩ | ⟨e1, _⟩ <;> simp [Act.put, e1, hA.size]
        have hputd : (a.put ops[i].dst v).defers = n.ds := by
          rcases hdst with ⟨e1, _⟩ | ⟨e1, _⟩ <;> simpa [Act.put, e1] using hA.defers
        refine ih fuel _ _ w'' ?_ (by omega) (by simpa using hs) (fun t ht' => ?_) (fun j hj x hx => ?_) (hR2 _ _ _ hE hE') (fun hso hal => ?_) ⟨hputs, hputd, fun s u hu => ?_⟩ (fun j d' φ' hFj hl hal => ?_)
        · have := countP_drop (List.range m) List.nodup_range (fun j => !listed.getD j false) (fun j => !(listed.setIfInBounds i true).getD j false) i (by simpa using him) (by simp [hif]) (by rw [getD_set _ _ _ (by omega)]; simp)
            (fun j hj => by rw [getD_set _ _ _ (by omega), if_neg (fun e => hj e.symm)])
          omega
        · rw [getD_set _ _ _ (by omega), if_neg (by omega)]; exact ht t ht'
        · rw [getD_set _ _ _ (by omega)] at hj ⊢
          split
          · rfl
          · split at hj
            · rename_i e; subst e; exact hid x hx
            · exact hdc j hj x hx
        · cases hmu : mu.getD i false with
          | true => have := hal i him hmu; rw [getD_set _ _ _ (by omega), if_pos rfl] at this; cases this
          | false =>
            rw [hmu] at hE2
            exact (hS hso fun k hk hmk => by
              have := hal k hk hmk
              rw [getD_set _ _ _ (by omega)] at this
              split at this
              · cases this
              · exact this).tr hE2
        · rw [hget]
          split
          · rename_i e; subst e; rw [hLn i d φ hFi] at hu; cases hu
          · exact hA.get s u hu
        · rw [hget]
          rw [getD_set _ _ _ (by omega)] at hl
          by_cases e : i = j
          · subst e
            rw [hFi] at hFj
            simp only [Option.some.injEq, Prod.mk.injEq] at hFj
            obtain ⟨rfl, rfl⟩ := hFj
            rw [if_pos rfl]
            exact hv
          · rw [if_neg e] at hl
            rw [if_neg (hFd i j d d' φ φ' hFi hFj e)]
            have hold := hfac j d' φ' hFj hl (fun hf k hk hmu hkl => hal hf k hk hmu (by rw [getD_set _ _ _ (by omega)]; split; rfl; exact hkl))
            have hstj := allStb_get hst j d' φ' hFj
            cases hfj : fr.getD j false with
            | false => rw [hfj] at hstj; exact hstj _ _ _ hold hE'
            | true =>
              rw [hfj] at hstj
              cases hmu : mu.getD i false with
              | false => rw [hmu] at hE2; exact hstj _ _ _ hold hE2
              | true =>
                rcases hal hfj i him hmu (by rw [getD_set _ _ _ (by omega)]; simp) with h | h
                · exact absurd h e
                · have := clo_sound (depsOf ops) (fun x => listed.getD x false = true) hdc j (depsOf ops j) (hdc j hl) i h
                  simp only [hif] at this; cases this
      have hfinal := hG a n (fun a' w'' => wpAny P .any ops Q fuel (listed.setIfInBounds i true) a' w'') Q hA' hnext
      unfold wpOp
      simp only [Array.getElem?_eq_getElem his]
      split at hfinal
      · rename_i hw; rw [if_pos hw]; exact .inl hfinal
      · rename_i hw; rw [if_neg hw]; exact hfinal
  have hE0 : R w { w with drawn := w.drawn + 1 } := hR1 _ _ (ext_drew w)
  refine main ((List.range m).countP fun j => !(Array.replicate ops.size false).getD j false) ops.size (Array.replicate ops.size false) a _ rfl ?_ (by simp) (fun t _ => ?_) (fun j hj => ?_) hE0 (fun _ _ => ext_drew w) ha (fun i d φ _ hl _ => ?_)
  · have := List.countP_le_length (p := fun j => !(Array.replicate ops.size false).getD j false) (l := List.range m)
    simp only [List.length_range] at this
    omega
  all_goals first
    | (simp [Array.getD_eq_getD_getElem?, Array.getElem?_replicate]; done)
    | (exfalso; revert hj; simp [Array.getD_eq_getD_getElem?, Array.getElem?_replicate]; split <;> simp)
    | (exfalso; revert hl; simp [Array.getD_eq_getD_getElem?, Array.getElem?_replicate]; split <;> simp)
    | (simp [Array.getD_eq_getD_getElem?, Array.getElem?_replicate]; split <;> simp)
/-- The same where all operations only make memory. -/
theorem wc_draw {id : Nat} (hm : P.follows .mixedOrders = true) (m : Nat) (F : List (Nat × Pred)) (needs : List (List Nat)) {n : Nd} {L : Env} {w : World}
    (hok : mixOk n.n ops m (F.map (·.1)) needs [] [] (List.replicate m true) false = true) (hL : F.all (fun p => (L.get p.1).isNone) = true) (hst : AllStb Ext F []) (hop : Obs P Ext [] false ops L w F 0 needs)
    (hfin : ∀ w', Ext w w' → AllF w' (fun L' => WL P ops Q (ops.toList.drop m) n L' w') F (List.replicate m true) L) : WC P (.region id ops true) Q n L w :=
  wc_drawR hm Ext (fun _ _ h => h) (fun _ _ _ h k => h.tr k) m F needs [] [] (List.replicate m true) false hok hL hst hop hfin
end

/-! Facts that steps which only make memory keep. -/
abbrev eqv (c : Value) : Pred := fun v _ => v = c
def isB (lo : Nat) (l : List UInt8) : Pred := fun v w => ∃ A c, v = .slice A l.length c ∧ RdB w lo w.heap.size A c l
def isOwnB (lo : Nat) (e : TypeId) (l : List UInt8) : Pred := fun v w => ∃ A c, v = .slice A l.length c ∧ OwnB w lo e A c l
def isCell (x : Value) : Pred := fun v w => ∃ p, v = .pointer (some p) ∧ w.cell? p = some x
def anyv : Pred := fun _ _ => True
theorem stb_eqv {R : World → World → Prop} (c : Value) : StbR R (eqv c) := fun _ _ _ h _ => h
theorem stb_any {R : World → World → Prop} : StbR R anyv := fun _ _ _ _ _ => trivial
theorem stb_isB (lo : Nat) (l : List UInt8) : Stb (isB lo l) := fun v w w' ⟨A, c, hv, hr⟩ he => ⟨A, c, hv, (hr.ext he).mono (Nat.le_refl _) he.size⟩
theorem stb_isOwnB (lo : Nat) (e : TypeId) (l : List UInt8) : Stb (isOwnB lo e l) := fun v w w' ⟨A, c, hv, hr⟩ he => ⟨A, c, hv, Own.ext hr he⟩
theorem ext_cell {w w' : World} {p : Addr} {x : Value} (he : Ext w w') (h : w.cell? p = some x) : w'.cell? p = some x :=
  (World.cell?_of_block (he.block p.block (World.block_lt_of_cell? w _ h) (by simp))).trans h
theorem stb_isCell (x : Value) : Stb (isCell x) := fun v w w' ⟨p, hv, hc⟩ he => ⟨p, hv, ext_cell he hc⟩

end Go.Proofs.Ytopfjpkjpmdhaaa
