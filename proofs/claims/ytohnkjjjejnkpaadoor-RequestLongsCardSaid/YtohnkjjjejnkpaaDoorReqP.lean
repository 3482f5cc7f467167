/-
  Commands, plainly: what is written reads back, and what is read was written; the real codec and the reference agree. Condition: the sizes of numbers and parts.
-/
import Derived.Test.YtohnkjjjejnkpaaDoorQk
namespace Go.Proofs.YtohnkjjjejnkpaaDoor
set_option linter.unusedVariables false
set_option linter.unusedSimpArgs false

/-- The letters. -/
def L9 (p : UInt8) : Prop := p = 107 ∨ p = 118 ∨ p = 116 ∨ p = 108 ∨ p = 110 ∨ p = 109 ∨ p = 103 ∨ p = 112 ∨ p = 99
theorem needs_cases (op : Int) : needs op = [107, 118, 116, 108] ∨ needs op = [107, 118, 116, 108, 110] ∨ needs op = [107] ∨ needs op = [109] ∨ needs op = [107, 108] ∨ needs op = [103] ∨ needs op = [112] ∨ needs op = [107, 99] ∨ needs op = [] := by
  unfold needs
  repeat' split
  all_goals simp
theorem needs_L9 (op : Int) : ∀ p ∈ needs op, L9 p := by
  intro p hp
  have key : (needs op).all (fun p => decide (p = 107 ∨ p = 118 ∨ p = 116 ∨ p = 108 ∨ p = 110 ∨ p = 109 ∨ p = 103 ∨ p = 112 ∨ p = 99)) = true := by
    rcases needs_cases op with h | h | h | h | h | h | h | h | h <;> rw [h] <;> decide
  unfold L9
  exact of_decide_eq_true (List.all_eq_true.1 key p hp)

/-! Writing. -/
theorem wstep_al {c : Cmd} {st : List UInt8 × Bool} {p : UInt8} (hp : L9 p) : (alC c p = true → wstep c st p = (st.1 ++ bC c p, st.2)) ∧ (alC c p = false → (wstep c st p).2 = true) := by
  have one (al : List UInt8 → Bool) (s : List UInt8) : (al s = true → wpart al st s = (st.1 ++ pb s, st.2)) ∧ (al s = false → (wpart al st s).2 = true) := by
    unfold wpart; constructor <;> intro h <;> rw [h] <;> simp
  have lst (a : Nat) (al : List UInt8 → Bool) (xs : List (List UInt8)) : (xs.all al = true → ¬ (xs.length < a ∨ 16 < xs.length) → wlst a 16 al st xs = (st.1 ++ wl xs, st.2)) ∧ (xs.all al = false ∨ (xs.length < a ∨ 16 < xs.length) → (wlst a 16 al st xs).2 = true) := by
    constructor
    · intro h h2
      have := wlst_ok (a := a) (b := 16) (al := al) (out := st.1) (bad := st.2) h2
      rw [h] at this; simpa using this
    · intro h
      by_cases h2 : xs.length < a ∨ 16 < xs.length
      · exact congrArg Prod.snd (wlst_bad (al := al) (out := st.1) (bad := st.2) h2)
      · have := wlst_ok (a := a) (b := 16) (al := al) (out := st.1) (bad := st.2) h2
        rcases h with h | h
        · rw [h] at this; exact (congrArg Prod.snd this).trans (by simp)
        · exact absurd h h2
  rcases hp with h | h | h | h | h | h | h | h | h <;> subst h
  · exact one kv c.key
  · exact one vv c.value
  · have e : alC c 116 = (c.tags.all tv && decide (c.tags.length ≤ 16)) := rfl
    constructor
    · intro h; rw [e, Bool.and_eq_true, decide_eq_true_eq] at h; exact (lst 0 tv c.tags).1 h.1 (by omega)
    · intro h
      refine (lst 0 tv c.tags).2 ?_
      rw [e, Bool.and_eq_false_iff, decide_eq_false_iff_not] at h
      rcases h with h | h
      · exact .inl h
      · exact .inr (.inr (by omega))
  · constructor
    · intro h
      have h' : c.life ≠ 0 := of_decide_eq_true h
      show (st.1 ++ enc c.life, st.2 || decide (c.life = 0)) = (st.1 ++ enc c.life, st.2)
      rw [decide_eq_false h', Bool.or_false]
    · intro h
      have h' : ¬ (c.life ≠ 0) := of_decide_eq_false h
      show (st.2 || decide (c.life = 0)) = true
      rw [decide_eq_true (Decidable.not_not.1 h'), Bool.or_true]
  · exact ⟨fun _ => rfl, fun h => by have h' : true = false := h; cases h'⟩
  · have e : alC c 109 = (c.keys.all kv && decide (1 ≤ c.keys.length ∧ c.keys.length ≤ 16)) := rfl
    constructor
    · intro h; rw [e, Bool.and_eq_true, decide_eq_true_eq] at h; exact (lst 1 kv c.keys).1 h.1 (by omega)
    · intro h
      refine (lst 1 kv c.keys).2 ?_
      rw [e, Bool.and_eq_false_iff, decide_eq_false_iff_not] at h
      rcases h with h | h
      · exact .inl h
      · exact .inr (by omega)
  · exact one tv c.tag
  · exact one pv c.pre
  · exact one kv c.child
theorem wstep_bad {c : Cmd} {st : List UInt8 × Bool} {p : UInt8} (h : st.2 = true) : (wstep c st p).2 = true := by
  unfold wstep
  repeat' split
  all_goals first | (simp [wpart, h]; done) | (unfold wlst; split <;> simp [h])
theorem wfold_bad (c : Cmd) : ∀ (ps : List UInt8) (st : List UInt8 × Bool), st.2 = true → (ps.foldl (wstep c) st).2 = true
  | [], st, h => h
  | p :: r, st, h => wfold_bad c r _ (wstep_bad h)
theorem wfold_al (c : Cmd) : ∀ (ps : List UInt8) (st : List UInt8 × Bool), (∀ p ∈ ps, L9 p) → (ps.all (alC c) = true → ps.foldl (wstep c) st = (st.1 ++ ps.flatMap (bC c), st.2)) ∧ (ps.all (alC c) = false → (ps.foldl (wstep c) st).2 = true)
  | [], st, _ => ⟨fun _ => by simp, fun h => by simp at h⟩
  | p :: r, st, hL => by
    obtain ⟨a, b⟩ := wstep_al (c := c) (st := st) (hL p (List.mem_cons_self ..))
    have ih := wfold_al c r (wstep c st p) (fun q hq => hL q (List.mem_cons_of_mem _ hq))
    constructor
    · intro h
      rw [List.all_cons, Bool.and_eq_true] at h
      rw [List.foldl_cons, ih.1 h.2, a h.1, List.flatMap_cons, List.append_assoc]
    · intro h
      rw [List.all_cons] at h
      by_cases h1 : alC c p = true
      · rw [h1, Bool.true_and] at h; exact ih.2 h
      · exact wfold_bad c r _ (b (by simpa using h1))

/-! Reading what was written. -/
theorem part_enc {s : List UInt8} (r : List UInt8) (h : s.length ≤ 65536) : partV (pb s ++ r) = s ∧ partR (pb s ++ r) = r ∧ (vpart (pb s ++ r) 65536).2.2 = 0 := by
  have e : vpart (pb s ++ r) 65536 = (s, (enc s.length).length + s.length, 0) := by
    have := vpart_enc (b := s) (most := 65536) (by omega) (by omega) r
    unfold pb; rw [List.append_assoc]; exact this
  refine ⟨by unfold partV; rw [e], ?_, by rw [e]⟩
  unfold partR; rw [e]; unfold pb; rw [List.append_assoc]; exact drop_enc2 s r
theorem num_enc {n : Nat} (r : List UInt8) (h : n < 18446744073709551616) : numV (enc n ++ r) = n ∧ numR (enc n ++ r) = r ∧ (vget (enc n ++ r)).2.2 = 0 := by
  have e := vget_enc h r
  exact ⟨by unfold numV; rw [e], by unfold numR; rw [e]; exact List.drop_left' rfl, by rw [e]⟩
theorem partB_eq (al : List UInt8 → Bool) (l : List UInt8) : partB al l = (!txO l || !al (partV l)) := by
  unfold partB txO
  congr 1
  by_cases h : (vpart l 65536).2.2 = 0
  · rw [decide_eq_true h, decide_eq_false (by omega)]; rfl
  · rw [decide_eq_false h, decide_eq_true (by omega)]; rfl
theorem numB_eq (l : List UInt8) : numB l = !nmO l := by
  unfold numB nmO
  by_cases h : (vget l).2.2 = 0
  · rw [decide_eq_true h, decide_eq_false (by omega)]; rfl
  · rw [decide_eq_false h, decide_eq_true (by omega)]; rfl
theorem partB_enc {al : List UInt8 → Bool} {s : List UInt8} (r : List UInt8) (h : s.length ≤ 65536) (ha : al s = true) : partB al (pb s ++ r) = false := by
  obtain ⟨h1, _, h3⟩ := part_enc r h
  rw [partB_eq, h1, ha]; unfold txO; rw [h3]; rfl
theorem numB_enc {n : Nat} (r : List UInt8) (h : n < 18446744073709551616) : numB (enc n ++ r) = false := by
  rw [numB_eq]; unfold nmO; rw [(num_enc r h).2.2]; rfl
theorem rS_enc (al : List UInt8 → Bool) (xs : List (List UInt8)) (r : List UInt8) (h : ∀ s ∈ xs, s.length ≤ 65536) (ha : xs.all al = true) : ∀ i, i ≤ xs.length → rS al i (xs.flatMap pb ++ r) = (xs.take i, (xs.drop i).flatMap pb ++ r, false)
  | 0, _ => by simp [rS]
  | i + 1, hi => by
    have ih := rS_enc al xs r h ha i (by omega)
    have hd : xs.drop i = xs[i] :: xs.drop (i + 1) := List.drop_eq_getElem_cons (by omega)
    have hm : xs[i] ∈ xs := List.getElem_mem _
    have hl := h _ hm
    have hA : al xs[i] = true := List.all_eq_true.1 ha _ hm
    obtain ⟨e1, e2, _⟩ := part_enc (s := xs[i]) ((xs.drop (i + 1)).flatMap pb ++ r) hl
    have e3 := partB_enc (al := al) ((xs.drop (i + 1)).flatMap pb ++ r) hl hA
    have ed : (xs.drop i).flatMap pb ++ r = pb xs[i] ++ ((xs.drop (i + 1)).flatMap pb ++ r) := by rw [hd, List.flatMap_cons, List.append_assoc]
    rw [ed] at ih
    rw [rS, ih]
    show (xs.take i ++ [partV (pb xs[i] ++ _)], partR (pb xs[i] ++ _), false || partB al (pb xs[i] ++ _)) = _
    rw [e1, e2, e3, List.take_add_one, List.getElem?_eq_getElem (by omega)]
    rfl
theorem kv_len {s : List UInt8} (h : kv s = true) : s.length ≤ 65536 := by unfold kv at h; simp at h; omega
theorem tv_len {s : List UInt8} (h : tv s = true) : s.length ≤ 65536 := by unfold tv at h; simp at h; omega
theorem pv_len {s : List UInt8} (h : pv s = true) : s.length ≤ 65536 := by unfold pv at h; simp at h; omega
theorem vv_len {s : List UInt8} (h : vv s = true) : s.length ≤ 65536 := by unfold vv at h; simp at h; omega
theorem rl_enc {a : Nat} {al : List UInt8 → Bool} {xs : List (List UInt8)} (r : List UInt8) (hk : ∀ s, al s = true → s.length ≤ 65536) (h1 : a ≤ xs.length) (h2 : xs.length ≤ 16) (ha : xs.all al = true) :
    rlV a 16 (wl xs ++ r) = xs ∧ rlR a 16 (wl xs ++ r) = r ∧ rlB a 16 al (wl xs ++ r) = false := by
  have e : wl xs ++ r = enc xs.length ++ (xs.flatMap pb ++ r) := by unfold wl; rw [List.append_assoc]
  obtain ⟨n1, n2, n3⟩ := num_enc (n := xs.length) (xs.flatMap pb ++ r) (by omega)
  have n4 := numB_enc (n := xs.length) (xs.flatMap pb ++ r) (by omega)
  rw [← e] at n1 n2 n3 n4
  have hs := rS_enc al xs r (fun s hm => hk s (List.all_eq_true.1 ha s hm)) ha xs.length (Nat.le_refl _)
  rw [List.take_length, List.drop_length, List.flatMap_nil, List.nil_append] at hs
  obtain ⟨o1, o2, o3⟩ := rl_ok (a := a) (b := 16) al (l := wl xs ++ r) (by rw [n1]; omega)
  rw [o1, o2, o3, n1, n2, hs, n4]
  exact ⟨rfl, rfl, rfl⟩
theorem rstep_enc {c s : Cmd} {r : List UInt8} {b : Bool} {p : UInt8} (hp : L9 p) (ha : alC c p = true) (hlf : c.life < 18446744073709551616) (hvr : c.ver < 18446744073709551616) : rstep (s, bC c p ++ r, b) p = (ostep c s p, r, b) := by
  rcases hp with h | h | h | h | h | h | h | h | h <;> subst h
  · have ha' : kv c.key = true := ha
    obtain ⟨e1, e2, _⟩ := part_enc (s := c.key) r (kv_len ha')
    show ({ s with key := partV (pb c.key ++ r) }, partR (pb c.key ++ r), b || partB kv (pb c.key ++ r)) = ({ s with key := c.key }, r, b)
    rw [e1, e2, partB_enc r (kv_len ha') ha', Bool.or_false]
  · have ha' : vv c.value = true := ha
    obtain ⟨e1, e2, _⟩ := part_enc (s := c.value) r (vv_len ha')
    show ({ s with value := partV (pb c.value ++ r) }, partR (pb c.value ++ r), b || partB vv (pb c.value ++ r)) = ({ s with value := c.value }, r, b)
    rw [e1, e2, partB_enc r (vv_len ha') ha', Bool.or_false]
  · have ha' : (c.tags.all tv && decide (c.tags.length ≤ 16)) = true := ha
    rw [Bool.and_eq_true, decide_eq_true_eq] at ha'
    obtain ⟨e1, e2, e3⟩ := rl_enc (a := 0) (al := tv) (xs := c.tags) r (fun s h => tv_len h) (Nat.zero_le _) ha'.2 ha'.1
    show ({ s with tags := rlV 0 16 (wl c.tags ++ r) }, rlR 0 16 (wl c.tags ++ r), b || rlB 0 16 tv (wl c.tags ++ r)) = ({ s with tags := c.tags }, r, b)
    rw [e1, e2, e3, Bool.or_false]
  · have ha' : c.life ≠ 0 := of_decide_eq_true ha
    obtain ⟨e1, e2, _⟩ := num_enc (n := c.life) r hlf
    show ({ s with life := numV (enc c.life ++ r) }, numR (enc c.life ++ r), b || numB (enc c.life ++ r) || decide (numV (enc c.life ++ r) = 0)) = ({ s with life := c.life }, r, b)
    rw [e1, e2, numB_enc r hlf, decide_eq_false ha', Bool.or_false, Bool.or_false]
  · obtain ⟨e1, e2, _⟩ := num_enc (n := c.ver) r hvr
    show ({ s with ver := numV (enc c.ver ++ r) }, numR (enc c.ver ++ r), b || numB (enc c.ver ++ r)) = ({ s with ver := c.ver }, r, b)
    rw [e1, e2, numB_enc r hvr, Bool.or_false]
  · have ha' : (c.keys.all kv && decide (1 ≤ c.keys.length ∧ c.keys.length ≤ 16)) = true := ha
    rw [Bool.and_eq_true, decide_eq_true_eq] at ha'
    obtain ⟨e1, e2, e3⟩ := rl_enc (a := 1) (al := kv) (xs := c.keys) r (fun s h => kv_len h) ha'.2.1 ha'.2.2 ha'.1
    show ({ s with keys := rlV 1 16 (wl c.keys ++ r) }, rlR 1 16 (wl c.keys ++ r), b || rlB 1 16 kv (wl c.keys ++ r)) = ({ s with keys := c.keys }, r, b)
    rw [e1, e2, e3, Bool.or_false]
  · have ha' : tv c.tag = true := ha
    obtain ⟨e1, e2, _⟩ := part_enc (s := c.tag) r (tv_len ha')
    show ({ s with tag := partV (pb c.tag ++ r) }, partR (pb c.tag ++ r), b || partB tv (pb c.tag ++ r)) = ({ s with tag := c.tag }, r, b)
    rw [e1, e2, partB_enc r (tv_len ha') ha', Bool.or_false]
  · have ha' : pv c.pre = true := ha
    obtain ⟨e1, e2, _⟩ := part_enc (s := c.pre) r (pv_len ha')
    show ({ s with pre := partV (pb c.pre ++ r) }, partR (pb c.pre ++ r), b || partB pv (pb c.pre ++ r)) = ({ s with pre := c.pre }, r, b)
    rw [e1, e2, partB_enc r (pv_len ha') ha', Bool.or_false]
  · have ha' : kv c.child = true := ha
    obtain ⟨e1, e2, _⟩ := part_enc (s := c.child) r (kv_len ha')
    show ({ s with child := partV (pb c.child ++ r) }, partR (pb c.child ++ r), b || partB kv (pb c.child ++ r)) = ({ s with child := c.child }, r, b)
    rw [e1, e2, partB_enc r (kv_len ha') ha', Bool.or_false]
theorem rfold_enc {c : Cmd} (hlf : c.life < 18446744073709551616) (hvr : c.ver < 18446744073709551616) (r : List UInt8) : ∀ (ps : List UInt8) (s : Cmd) (b : Bool), (∀ p ∈ ps, L9 p) → ps.all (alC c) = true → ps.foldl rstep (s, ps.flatMap (bC c) ++ r, b) = (ps.foldl (ostep c) s, r, b)
  | [], s, b, _, _ => by simp
  | p :: q, s, b, hL, ha => by
    rw [List.all_cons, Bool.and_eq_true] at ha
    rw [List.foldl_cons, List.flatMap_cons, List.append_assoc, rstep_enc (hL p (List.mem_cons_self ..)) ha.1 hlf hvr, rfold_enc hlf hvr r q _ _ (fun x hx => hL x (List.mem_cons_of_mem _ hx)) ha.2, List.foldl_cons]

theorem rvalid_iff {c : Cmd} : rvalid c = true ↔ (1 ≤ c.op ∧ c.op ≤ 15) ∧ c = onlyC c ∧ (needs c.op).all (alC c) = true := by
  unfold rvalid; rw [Bool.and_eq_true, Bool.and_eq_true, decide_eq_true_eq, decide_eq_true_eq, and_assoc]
theorem only_op {c : Cmd} (ps : List UInt8) (s : Cmd) : (ps.foldl (ostep c) s).op = s.op := by
  induction ps generalizing s with
  | nil => rfl
  | cons p r ih => rw [List.foldl_cons, ih]; unfold ostep; repeat' split
                   all_goals rfl
theorem only_value {c : Cmd} (h : c = onlyC c) (ha : (needs c.op).all (alC c) = true) : c.value.length ≤ 65536 := by
  have hv := congrArg Cmd.value h
  unfold onlyC at hv
  rcases needs_cases c.op with e | e | e | e | e | e | e | e | e <;> rw [e] at hv ha
  · exact vv_len (List.all_eq_true.1 ha 118 (by simp))
  · exact vv_len (List.all_eq_true.1 ha 118 (by simp))
  all_goals (rw [hv]; exact Nat.zero_le _)
/-- Write, by the reference. -/
theorem wrC_eq {c : Cmd} (hlf : c.life < 18446744073709551616) (hvr : c.ver < 18446744073709551616) : wrC c = if rvalid c = true then ((codeOf c, outC c), 0) else ((0, []), 2) := by
  have hw := wfold_al c (needs c.op) ([], false) (needs_L9 c.op)
  have back (h1 : 1 ≤ c.op) (h2 : c.op ≤ 15) (ha : (needs c.op).all (alC c) = true) : (wfold c).1 = outC c ∧ (wfold c).2 = false ∧ rdC (codeOf c) (outC c) = (onlyC c, 0) := by
    have hf : wfold c = (outC c, false) := by unfold wfold; rw [hw.1 ha]; rfl
    have hr := rfold_enc hlf hvr [] (needs c.op) (cmd0 c.op) false (needs_L9 c.op) ha
    rw [List.append_nil] at hr
    have hc : ((codeOf c).toNat : Int) = c.op := codeOf_nat h1 h2
    have hrf : rfold ((codeOf c).toNat : Int) (outC c) = (onlyC c, [], false) := by rw [hc]; exact hr
    refine ⟨by rw [hf], by rw [hf], ?_⟩
    rw [rdC_ok (by omega) (by omega) (by rw [hrf]) (by rw [hrf]), hrf]
  by_cases hv : rvalid c = true
  · rw [if_pos hv]
    obtain ⟨⟨h1, h2⟩, h3, ha⟩ := rvalid_iff.1 hv
    obtain ⟨b1, b2, b3⟩ := back h1 h2 ha
    have := wrC_ok h1 h2 (only_value h3 ha) b2 (by rw [b1, b3]; exact congrArg (fun x => (x, 0)) h3.symm)
    rw [this, b1]
  · rw [if_neg hv]
    refine wrC_bad ?_
    rintro ⟨h1, h2, _, h4, h5⟩
    by_cases ha : (needs c.op).all (alC c) = true
    · obtain ⟨b1, b2, b3⟩ := back h1 h2 ha
      rw [b1, b3] at h5
      exact hv (rvalid_iff.2 ⟨⟨h1, h2⟩, (congrArg Prod.fst h5).symm, ha⟩)
    · have := hw.2 (by simpa using ha)
      unfold wfold at h4
      rw [this] at h4; cases h4

/-! The reference's reading. -/
theorem rS_bad (al : List UInt8 → Bool) (l : List UInt8) : ∀ n, (rS al n l).2.2 = (errS n l || !((rS al n l).1.all al))
  | 0 => rfl
  | n + 1 => by
    have ih := rS_bad al l n
    have e2 := (rS_al al kv l n).2
    show ((rS al n l).2.2 || partB al (rS al n l).2.1) = (errS n l || !txO (rS kv n l).2.1 || !(((rS al n l).1 ++ [partV (rS al n l).2.1]).all al))
    rw [ih, partB_eq, ← e2, List.all_append]
    cases errS n l <;> cases (rS al n l).1.all al <;> cases txO (rS al n l).2.1 <;> cases hx : al (partV (rS al n l).2.1) <;> simp [hx]
theorem texts_rd (a : Nat) (ha : a ≤ 1) (al : List UInt8 → Bool) (l : List UInt8) : (tsO l = false → rlB a 16 al l = true) ∧ (tsO l = true → rlV a 16 l = tsV l ∧ rlR a 16 l = tsR l ∧ rlB a 16 al l = !((tsV l).all al && decide (a ≤ (tsV l).length ∧ (tsV l).length ≤ 16))) := by
  have hlen := fun al => (rS_len al (numR l) (numV l)).1
  by_cases h : numV l < a ∨ 16 < numV l
  · obtain ⟨e1, e2, e3⟩ := rl_bad (al := al) h
    refine ⟨fun _ => e3, fun ho => ?_⟩
    have h16 : numV l ≤ 16 := by unfold tsO at ho; simp at ho; omega
    have h0 : numV l = 0 := by omega
    obtain ⟨t1, t2⟩ := ts_ok ho
    rw [h0] at t1 t2
    have t1' : tsV l = [] := t1
    have t2' : tsR l = numR l := t2
    have hf : ¬ (a ≤ ([] : List (List UInt8)).length ∧ ([] : List (List UInt8)).length ≤ 16) := by simp; omega
    rw [e1, e2, e3, t1', t2', decide_eq_false hf, Bool.and_false]
    exact ⟨rfl, rfl, rfl⟩
  · obtain ⟨e1, e2, e3⟩ := rl_ok al h
    have hb := rS_bad al (numR l) (numV l)
    have h16 : decide (numV l ≤ 16) = true := decide_eq_true (by omega)
    constructor
    · intro ho
      unfold tsO at ho
      rw [h16, Bool.and_true] at ho
      rw [e3, hb, numB_eq]
      cases hn : nmO l
      · simp
      · rw [hn, Bool.true_and] at ho
        have : errS (numV l) (numR l) = true := by simpa using ho
        rw [this]; simp
    · intro ho
      obtain ⟨t1, t2⟩ := ts_ok ho
      have ho' := ho
      unfold tsO at ho'
      simp only [Bool.and_eq_true, Bool.not_eq_true'] at ho'
      obtain ⟨⟨hn, _⟩, he⟩ := ho'
      obtain ⟨s1, s2⟩ := rS_al al kv (numR l) (numV l)
      rw [e1, e2, e3, t1, t2, hb, numB_eq, hn, he, s1, s2, hlen]
      refine ⟨rfl, rfl, ?_⟩
      rw [decide_eq_true (by omega), Bool.and_true]; rfl
theorem rstep_rd {c : Cmd} {l : List UInt8} {b : Bool} {p : UInt8} (hp : L9 p) : (rdO p l = false → (rstep (c, l, b) p).2.2 = true) ∧ (rdO p l = true → rstep (c, l, b) p = (rdS c p l, rdR p l, b || !alC (rdS c p l) p)) := by
  have tR (h : txO l = true) : txR l = partR l := by unfold txR; rw [h]; rfl
  have nR (h : nmO l = true) : nmR l = numR l := by unfold nmR; rw [h]; rfl
  have tb (al : List UInt8 → Bool) : (txO l = false → (b || partB al l) = true) ∧ (txO l = true → (b || partB al l) = (b || !al (partV l))) := by
    constructor <;> intro h <;> rw [partB_eq, h] <;> simp
  rcases hp with h | h | h | h | h | h | h | h | h <;> subst h
  · exact ⟨fun h => (tb kv).1 h, fun h => by rw [rst_k]; show ({ c with key := partV l }, partR l, b || partB kv l) = ({ c with key := partV l }, txR l, b || !kv (partV l)); rw [tR h, (tb kv).2 h]⟩
  · exact ⟨fun h => (tb vv).1 h, fun h => by rw [rst_v]; show ({ c with value := partV l }, partR l, b || partB vv l) = ({ c with value := partV l }, txR l, b || !vv (partV l)); rw [tR h, (tb vv).2 h]⟩
  · obtain ⟨t1, t2⟩ := texts_rd 0 (by omega) tv l
    refine ⟨fun h => by rw [rst_t, t1 h]; simp, fun h => ?_⟩
    obtain ⟨e1, e2, e3⟩ := t2 h
    rw [rst_t, e1, e2, e3]
    show _ = ({ c with tags := tsV l }, tsR l, b || !((tsV l).all tv && decide ((tsV l).length ≤ 16)))
    rw [show decide (0 ≤ (tsV l).length ∧ (tsV l).length ≤ 16) = decide ((tsV l).length ≤ 16) by rw [decide_eq_decide]; omega]
  · refine ⟨fun h => ?_, fun h => ?_⟩
    · have h' : nmO l = false := h
      rw [rst_l, numB_eq, h']; simp
    · have h' : nmO l = true := h
      rw [rst_l, numB_eq, h']
      show _ = ({ c with life := numV l }, nmR l, b || !decide (numV l ≠ 0))
      rw [nR h']
      by_cases h0 : numV l = 0 <;> simp [h0]
  · refine ⟨fun h => ?_, fun h => ?_⟩
    · have h' : nmO l = false := h
      rw [rst_n, numB_eq, h']; simp
    · have h' : nmO l = true := h
      rw [rst_n, numB_eq, h']
      show _ = ({ c with ver := numV l }, nmR l, b || !true)
      rw [nR h']
  · obtain ⟨t1, t2⟩ := texts_rd 1 (by omega) kv l
    refine ⟨fun h => by rw [rst_m, t1 h]; simp, fun h => ?_⟩
    obtain ⟨e1, e2, e3⟩ := t2 h
    rw [rst_m, e1, e2, e3]
    rfl
  · exact ⟨fun h => (tb tv).1 h, fun h => by rw [rst_g]; show ({ c with tag := partV l }, partR l, b || partB tv l) = ({ c with tag := partV l }, txR l, b || !tv (partV l)); rw [tR h, (tb tv).2 h]⟩
  · exact ⟨fun h => (tb pv).1 h, fun h => by rw [rst_p]; show ({ c with pre := partV l }, partR l, b || partB pv l) = ({ c with pre := partV l }, txR l, b || !pv (partV l)); rw [tR h, (tb pv).2 h]⟩
  · exact ⟨fun h => (tb kv).1 h, fun h => by rw [rst_c]; show ({ c with child := partV l }, partR l, b || partB kv l) = ({ c with child := partV l }, txR l, b || !kv (partV l)); rw [tR h, (tb kv).2 h]⟩

end Go.Proofs.YtohnkjjjejnkpaaDoor
