/-
  The reference's reading of commands and the real one agree; what it reads was written so. No condition.
-/
import Derived.Test.YtohnkjjjejnkpaaDoorReqP
namespace Go.Proofs.YtohnkjjjejnkpaaDoor
set_option linter.unusedVariables false
set_option linter.unusedSimpArgs false

theorem rstep_bad {s : Cmd × List UInt8 × Bool} {p : UInt8} (h : s.2.2 = true) : (rstep s p).2.2 = true := by
  unfold rstep
  repeat' split
  all_goals simp [h]
theorem rfold_bad : ∀ (ps : List UInt8) (s : Cmd × List UInt8 × Bool), s.2.2 = true → (ps.foldl rstep s).2.2 = true
  | [], s, h => h
  | p :: r, s, h => rfold_bad r _ (rstep_bad h)
/-- All parts are allowed. -/
def okA : List UInt8 → Cmd → List UInt8 → Bool
  | [], _, _ => true
  | p :: ps, c, l => alC (rdS c p l) p && okA ps (rdS c p l) (rdR p l)
theorem rr_fold : ∀ (ps : List UInt8) (c : Cmd) (l : List UInt8) (b : Bool), (∀ p ∈ ps, L9 p) → (rr ps c l = none → (ps.foldl rstep (c, l, b)).2.2 = true) ∧ (∀ c' q, rr ps c l = some (c', q) → ps.foldl rstep (c, l, b) = (c', q, b || !okA ps c l))
  | [], c, l, b, _ => ⟨fun h => by simp [rr] at h, fun c' q h => by
      simp only [rr, Option.some.injEq, Prod.mk.injEq] at h
      obtain ⟨h1, h2⟩ := h; subst h1 h2; simp [okA]⟩
  | p :: ps, c, l, b, hL => by
    obtain ⟨r1, r2⟩ := rstep_rd (c := c) (l := l) (b := b) (hL p (List.mem_cons_self ..))
    by_cases ho : rdO p l = true
    · have ih := rr_fold ps (rdS c p l) (rdR p l) (b || !alC (rdS c p l) p) (fun x hx => hL x (List.mem_cons_of_mem _ hx))
      rw [rr, if_pos ho, List.foldl_cons, r2 ho]
      refine ⟨ih.1, fun c' q h => ?_⟩
      rw [ih.2 c' q h, okA]
      cases b <;> cases alC (rdS c p l) p <;> simp
    · rw [rr, if_neg ho, List.foldl_cons]
      exact ⟨fun _ => rfold_bad ps _ (r1 (by simpa using ho)), fun c' q h => by cases h⟩

theorem part_inv {l : List UInt8} (h : txO l = true) : pb (partV l) ++ partR l = l := by
  have h0 : (vpart l 65536).2.2 = 0 := of_decide_eq_true h
  by_cases h1 : (vget l).2.2 ≠ 0
  · rw [vpart_bad (by omega) h1] at h0; exact absurd h0 h1
  · by_cases h2 : (65536 : Int) < ((vget l).1 : Int)
    · rw [vpart_long (by omega) h1 h2] at h0; cases h0
    · by_cases h3 : l.length - (vget l).2.1 < (vget l).1
      · rw [vpart_short (by omega) h1 h2 h3] at h0; cases h0
      · have e := vpart_ok (l := l) (most := 65536) (by omega) h1 h2 h3
        have hi := vget_inv (l := l) (by omega)
        unfold partV partR
        rw [e]
        show pb ((l.drop (vget l).2.1).take (vget l).1) ++ l.drop ((vget l).2.1 + (vget l).1) = l
        have hl : ((l.drop (vget l).2.1).take (vget l).1).length = (vget l).1 := by rw [List.length_take, List.length_drop]; omega
        unfold pb
        rw [hl, hi, List.append_assoc, ← List.drop_drop, List.take_append_drop, List.take_append_drop]
theorem num_inv {l : List UInt8} (h : nmO l = true) : enc (numV l) ++ numR l = l := by
  have h0 : (vget l).2.2 = 0 := of_decide_eq_true h
  unfold numV numR
  rw [vget_inv h0, List.take_append_drop]
theorem rS_inv (l : List UInt8) : ∀ n, errS n l = false → (rS kv n l).1.flatMap pb ++ (rS kv n l).2.1 = l
  | 0, _ => by simp [rS]
  | n + 1, h => by
    rw [errS, Bool.or_eq_false_iff] at h
    have ih := rS_inv l n h.1
    have hp := part_inv (l := (rS kv n l).2.1) (by simpa using h.2)
    show ((rS kv n l).1 ++ [partV (rS kv n l).2.1]).flatMap pb ++ partR (rS kv n l).2.1 = l
    rw [List.flatMap_append, List.append_assoc]
    show (rS kv n l).1.flatMap pb ++ ((pb (partV (rS kv n l).2.1) ++ []) ++ partR (rS kv n l).2.1) = l
    rw [List.append_nil, hp, ih]
theorem texts_inv {l : List UInt8} (h : tsO l = true) : wl (tsV l) ++ tsR l = l := by
  obtain ⟨t1, t2⟩ := ts_ok h
  unfold tsO at h
  simp only [Bool.and_eq_true, Bool.not_eq_true'] at h
  obtain ⟨⟨hn, _⟩, he⟩ := h
  rw [t1, t2]
  unfold wl
  rw [(rS_len kv _ _).1, List.append_assoc, rS_inv _ _ he, num_inv hn]
theorem rd_inv {c : Cmd} {p : UInt8} {l : List UInt8} (hp : L9 p) (ho : rdO p l = true) : bC (rdS c p l) p ++ rdR p l = l := by
  have tR (h : txO l = true) : txR l = partR l := by unfold txR; rw [h]; rfl
  have nR (h : nmO l = true) : nmR l = numR l := by unfold nmR; rw [h]; rfl
  rcases hp with h | h | h | h | h | h | h | h | h <;> subst h
  · show pb (partV l) ++ txR l = l; rw [tR ho, part_inv ho]
  · show pb (partV l) ++ txR l = l; rw [tR ho, part_inv ho]
  · exact texts_inv ho
  · show enc (numV l) ++ nmR l = l; rw [nR ho, num_inv ho]
  · show enc (numV l) ++ nmR l = l; rw [nR ho, num_inv ho]
  · exact texts_inv ho
  · show pb (partV l) ++ txR l = l; rw [tR ho, part_inv ho]
  · show pb (partV l) ++ txR l = l; rw [tR ho, part_inv ho]
  · show pb (partV l) ++ txR l = l; rw [tR ho, part_inv ho]
section
variable (c s : Cmd) (l : List UInt8)
theorem rdS_k : rdS c 107 l = { c with key := partV l } := rfl
theorem alC_k : alC c 107 = (kv c.key) := rfl
theorem bC_k : bC c 107 = pb c.key := rfl
theorem os_k : ostep c s 107 = { s with key := c.key } := rfl
theorem rdS_v : rdS c 118 l = { c with value := partV l } := rfl
theorem alC_v : alC c 118 = (vv c.value) := rfl
theorem bC_v : bC c 118 = pb c.value := rfl
theorem os_v : ostep c s 118 = { s with value := c.value } := rfl
theorem rdS_t : rdS c 116 l = { c with tags := tsV l } := rfl
theorem alC_t : alC c 116 = (c.tags.all tv && decide (c.tags.length ≤ 16)) := rfl
theorem bC_t : bC c 116 = wl c.tags := rfl
theorem os_t : ostep c s 116 = { s with tags := c.tags } := rfl
theorem rdS_l : rdS c 108 l = { c with life := numV l } := rfl
theorem alC_l : alC c 108 = (decide (c.life ≠ 0)) := rfl
theorem bC_l : bC c 108 = enc c.life := rfl
theorem os_l : ostep c s 108 = { s with life := c.life } := rfl
theorem rdS_n : rdS c 110 l = { c with ver := numV l } := rfl
theorem alC_n : alC c 110 = (true) := rfl
theorem bC_n : bC c 110 = enc c.ver := rfl
theorem os_n : ostep c s 110 = { s with ver := c.ver } := rfl
theorem rdS_m : rdS c 109 l = { c with keys := tsV l } := rfl
theorem alC_m : alC c 109 = (c.keys.all kv && decide (1 ≤ c.keys.length ∧ c.keys.length ≤ 16)) := rfl
theorem bC_m : bC c 109 = wl c.keys := rfl
theorem os_m : ostep c s 109 = { s with keys := c.keys } := rfl
theorem rdS_g : rdS c 103 l = { c with tag := partV l } := rfl
theorem alC_g : alC c 103 = (tv c.tag) := rfl
theorem bC_g : bC c 103 = pb c.tag := rfl
theorem os_g : ostep c s 103 = { s with tag := c.tag } := rfl
theorem rdS_p : rdS c 112 l = { c with pre := partV l } := rfl
theorem alC_p : alC c 112 = (pv c.pre) := rfl
theorem bC_p : bC c 112 = pb c.pre := rfl
theorem os_p : ostep c s 112 = { s with pre := c.pre } := rfl
theorem rdS_c : rdS c 99 l = { c with child := partV l } := rfl
theorem alC_c : alC c 99 = (kv c.child) := rfl
theorem bC_c : bC c 99 = pb c.child := rfl
theorem os_c : ostep c s 99 = { s with child := c.child } := rfl
end
theorem chain {x x' y r l : List UInt8} (h : x' ++ r = l) (hx : x = x') (hy : y = r) : x ++ y = l := by rw [hx, hy, h]
theorem rr_nine {op : Int} {l : List UInt8} {c' : Cmd} {q : List UInt8} (h : rr (needs op) (cmd0 op) l = some (c', q)) :
    okA (needs op) (cmd0 op) l = (needs op).all (alC c') ∧ (needs op).foldl (ostep c') (cmd0 op) = c' ∧ c'.op = op ∧ (needs op).flatMap (bC c') ++ q = l := by
  rcases needs_cases op with e | e | e | e | e | e | e | e | e
  · rw [e] at h ⊢
    by_cases k1 : rdO 107 l = true
    · rw [rr, if_pos k1] at h
      have i1 := rd_inv (c := (cmd0 op)) (p := 107) (l := l) (by unfold L9; decide) k1
      by_cases k2 : rdO 118 (rdR 107 l) = true
      · rw [rr, if_pos k2] at h
        have i2 := rd_inv (c := (rdS (cmd0 op) 107 l)) (p := 118) (l := (rdR 107 l)) (by unfold L9; decide) k2
        by_cases k3 : rdO 116 (rdR 118 (rdR 107 l)) = true
        · rw [rr, if_pos k3] at h
          have i3 := rd_inv (c := (rdS (rdS (cmd0 op) 107 l) 118 (rdR 107 l))) (p := 116) (l := (rdR 118 (rdR 107 l))) (by unfold L9; decide) k3
          by_cases k4 : rdO 108 (rdR 116 (rdR 118 (rdR 107 l))) = true
          · rw [rr, if_pos k4] at h
            have i4 := rd_inv (c := (rdS (rdS (rdS (cmd0 op) 107 l) 118 (rdR 107 l)) 116 (rdR 118 (rdR 107 l)))) (p := 108) (l := (rdR 116 (rdR 118 (rdR 107 l)))) (by unfold L9; decide) k4
            rw [rr] at h
            simp only [Option.some.injEq, Prod.mk.injEq] at h
            obtain ⟨h1, h2⟩ := h
            subst h1 h2
            simp only [rdS_k, alC_k, bC_k, os_k, rdS_v, alC_v, bC_v, os_v, rdS_t, alC_t, bC_t, os_t, rdS_l, alC_l, bC_l, os_l] at i1
            simp only [rdS_k, alC_k, bC_k, os_k, rdS_v, alC_v, bC_v, os_v, rdS_t, alC_t, bC_t, os_t, rdS_l, alC_l, bC_l, os_l] at i2
            simp only [rdS_k, alC_k, bC_k, os_k, rdS_v, alC_v, bC_v, os_v, rdS_t, alC_t, bC_t, os_t, rdS_l, alC_l, bC_l, os_l] at i3
            simp only [rdS_k, alC_k, bC_k, os_k, rdS_v, alC_v, bC_v, os_v, rdS_t, alC_t, bC_t, os_t, rdS_l, alC_l, bC_l, os_l] at i4
            refine ⟨by simp only [okA, List.all_cons, List.all_nil, rdS_k, alC_k, bC_k, os_k, rdS_v, alC_v, bC_v, os_v, rdS_t, alC_t, bC_t, os_t, rdS_l, alC_l, bC_l, os_l, cmd0], by simp only [List.foldl_cons, List.foldl_nil, rdS_k, alC_k, bC_k, os_k, rdS_v, alC_v, bC_v, os_v, rdS_t, alC_t, bC_t, os_t, rdS_l, alC_l, bC_l, os_l, cmd0], by simp only [rdS_k, alC_k, bC_k, os_k, rdS_v, alC_v, bC_v, os_v, rdS_t, alC_t, bC_t, os_t, rdS_l, alC_l, bC_l, os_l, cmd0], ?_⟩
            simp only [List.flatMap_cons, List.flatMap_nil, List.append_assoc, List.nil_append, rdS_k, alC_k, bC_k, os_k, rdS_v, alC_v, bC_v, os_v, rdS_t, alC_t, bC_t, os_t, rdS_l, alC_l, bC_l, os_l]
            rw [i4, i3, i2, i1]
          · rw [rr, if_neg k4] at h; cases h
        · rw [rr, if_neg k3] at h; cases h
      · rw [rr, if_neg k2] at h; cases h
    · rw [rr, if_neg k1] at h; cases h
  · rw [e] at h ⊢
    by_cases k1 : rdO 107 l = true
    · rw [rr, if_pos k1] at h
      have i1 := rd_inv (c := (cmd0 op)) (p := 107) (l := l) (by unfold L9; decide) k1
      by_cases k2 : rdO 118 (rdR 107 l) = true
      · rw [rr, if_pos k2] at h
        have i2 := rd_inv (c := (rdS (cmd0 op) 107 l)) (p := 118) (l := (rdR 107 l)) (by unfold L9; decide) k2
        by_cases k3 : rdO 116 (rdR 118 (rdR 107 l)) = true
        · rw [rr, if_pos k3] at h
          have i3 := rd_inv (c := (rdS (rdS (cmd0 op) 107 l) 118 (rdR 107 l))) (p := 116) (l := (rdR 118 (rdR 107 l))) (by unfold L9; decide) k3
          by_cases k4 : rdO 108 (rdR 116 (rdR 118 (rdR 107 l))) = true
          · rw [rr, if_pos k4] at h
            have i4 := rd_inv (c := (rdS (rdS (rdS (cmd0 op) 107 l) 118 (rdR 107 l)) 116 (rdR 118 (rdR 107 l)))) (p := 108) (l := (rdR 116 (rdR 118 (rdR 107 l)))) (by unfold L9; decide) k4
            by_cases k5 : rdO 110 (rdR 108 (rdR 116 (rdR 118 (rdR 107 l)))) = true
            · rw [rr, if_pos k5] at h
              have i5 := rd_inv (c := (rdS (rdS (rdS (rdS (cmd0 op) 107 l) 118 (rdR 107 l)) 116 (rdR 118 (rdR 107 l))) 108 (rdR 116 (rdR 118 (rdR 107 l))))) (p := 110) (l := (rdR 108 (rdR 116 (rdR 118 (rdR 107 l))))) (by unfold L9; decide) k5
              rw [rr] at h
              simp only [Option.some.injEq, Prod.mk.injEq] at h
              obtain ⟨h1, h2⟩ := h
              subst h1 h2
              simp only [rdS_k, alC_k, bC_k, os_k, rdS_v, alC_v, bC_v, os_v, rdS_t, alC_t, bC_t, os_t, rdS_l, alC_l, bC_l, os_l, rdS_n, alC_n, bC_n, os_n] at i1
              simp only [rdS_k, alC_k, bC_k, os_k, rdS_v, alC_v, bC_v, os_v, rdS_t, alC_t, bC_t, os_t, rdS_l, alC_l, bC_l, os_l, rdS_n, alC_n, bC_n, os_n] at i2
              simp only [rdS_k, alC_k, bC_k, os_k, rdS_v, alC_v, bC_v, os_v, rdS_t, alC_t, bC_t, os_t, rdS_l, alC_l, bC_l, os_l, rdS_n, alC_n, bC_n, os_n] at i3
              simp only [rdS_k, alC_k, bC_k, os_k, rdS_v, alC_v, bC_v, os_v, rdS_t, alC_t, bC_t, os_t, rdS_l, alC_l, bC_l, os_l, rdS_n, alC_n, bC_n, os_n] at i4
              simp only [rdS_k, alC_k, bC_k, os_k, rdS_v, alC_v, bC_v, os_v, rdS_t, alC_t, bC_t, os_t, rdS_l, alC_l, bC_l, os_l, rdS_n, alC_n, bC_n, os_n] at i5
              refine ⟨by simp only [okA, List.all_cons, List.all_nil, rdS_k, alC_k, bC_k, os_k, rdS_v, alC_v, bC_v, os_v, rdS_t, alC_t, bC_t, os_t, rdS_l, alC_l, bC_l, os_l, rdS_n, alC_n, bC_n, os_n, cmd0], by simp only [List.foldl_cons, List.foldl_nil, rdS_k, alC_k, bC_k, os_k, rdS_v, alC_v, bC_v, os_v, rdS_t, alC_t, bC_t, os_t, rdS_l, alC_l, bC_l, os_l, rdS_n, alC_n, bC_n, os_n, cmd0], by simp only [rdS_k, alC_k, bC_k, os_k, rdS_v, alC_v, bC_v, os_v, rdS_t, alC_t, bC_t, os_t, rdS_l, alC_l, bC_l, os_l, rdS_n, alC_n, bC_n, os_n, cmd0], ?_⟩
              simp only [List.flatMap_cons, List.flatMap_nil, List.append_assoc, List.nil_append, rdS_k, alC_k, bC_k, os_k, rdS_v, alC_v, bC_v, os_v, rdS_t, alC_t, bC_t, os_t, rdS_l, alC_l, bC_l, os_l, rdS_n, alC_n, bC_n, os_n]
              rw [i5, i4, i3, i2, i1]
            · rw [rr, if_neg k5] at h; cases h
          · rw [rr, if_neg k4] at h; cases h
        · rw [rr, if_neg k3] at h; cases h
      · rw [rr, if_neg k2] at h; cases h
    · rw [rr, if_neg k1] at h; cases h
  · rw [e] at h ⊢
    by_cases k1 : rdO 107 l = true
    · rw [rr, if_pos k1] at h
      have i1 := rd_inv (c := (cmd0 op)) (p := 107) (l := l) (by unfold L9; decide) k1
      rw [rr] at h
      simp only [Option.some.injEq, Prod.mk.injEq] at h
      obtain ⟨h1, h2⟩ := h
      subst h1 h2
      simp only [rdS_k, alC_k, bC_k, os_k] at i1
      refine ⟨by simp only [okA, List.all_cons, List.all_nil, rdS_k, alC_k, bC_k, os_k, cmd0], by simp only [List.foldl_cons, List.foldl_nil, rdS_k, alC_k, bC_k, os_k, cmd0], by simp only [rdS_k, alC_k, bC_k, os_k, cmd0], ?_⟩
      simp only [List.flatMap_cons, List.flatMap_nil, List.append_assoc, List.nil_append, rdS_k, alC_k, bC_k, os_k]
      rw [i1]
    · rw [rr, if_neg k1] at h; cases h
  · rw [e] at h ⊢
    by_cases k1 : rdO 109 l = true
    · rw [rr, if_pos k1] at h
      have i1 := rd_inv (c := (cmd0 op)) (p := 109) (l := l) (by unfold L9; decide) k1
      rw [rr] at h
      simp only [Option.some.injEq, Prod.mk.injEq] at h
      obtain ⟨h1, h2⟩ := h
      subst h1 h2
      simp only [rdS_m, alC_m, bC_m, os_m] at i1
      refine ⟨by simp only [okA, List.all_cons, List.all_nil, rdS_m, alC_m, bC_m, os_m, cmd0], by simp only [List.foldl_cons, List.foldl_nil, rdS_m, alC_m, bC_m, os_m, cmd0], by simp only [rdS_m, alC_m, bC_m, os_m, cmd0], ?_⟩
      simp only [List.flatMap_cons, List.flatMap_nil, List.append_assoc, List.nil_append, rdS_m, alC_m, bC_m, os_m]
      rw [i1]
    · rw [rr, if_neg k1] at h; cases h
  · rw [e] at h ⊢
    by_cases k1 : rdO 107 l = true
    · rw [rr, if_pos k1] at h
      have i1 := rd_inv (c := (cmd0 op)) (p := 107) (l := l) (by unfold L9; decide) k1
      by_cases k2 : rdO 108 (rdR 107 l) = true
      · rw [rr, if_pos k2] at h
        have i2 := rd_inv (c := (rdS (cmd0 op) 107 l)) (p := 108) (l := (rdR 107 l)) (by unfold L9; decide) k2
        rw [rr] at h
        simp only [Option.some.injEq, Prod.mk.injEq] at h
        obtain ⟨h1, h2⟩ := h
        subst h1 h2
        simp only [rdS_k, alC_k, bC_k, os_k, rdS_l, alC_l, bC_l, os_l] at i1
        simp only [rdS_k, alC_k, bC_k, os_k, rdS_l, alC_l, bC_l, os_l] at i2
        refine ⟨by simp only [okA, List.all_cons, List.all_nil, rdS_k, alC_k, bC_k, os_k, rdS_l, alC_l, bC_l, os_l, cmd0], by simp only [List.foldl_cons, List.foldl_nil, rdS_k, alC_k, bC_k, os_k, rdS_l, alC_l, bC_l, os_l, cmd0], by simp only [rdS_k, alC_k, bC_k, os_k, rdS_l, alC_l, bC_l, os_l, cmd0], ?_⟩
        simp only [List.flatMap_cons, List.flatMap_nil, List.append_assoc, List.nil_append, rdS_k, alC_k, bC_k, os_k, rdS_l, alC_l, bC_l, os_l]
        rw [i2, i1]
      · rw [rr, if_neg k2] at h; cases h
    · rw [rr, if_neg k1] at h; cases h
  · rw [e] at h ⊢
    by_cases k1 : rdO 103 l = true
    · rw [rr, if_pos k1] at h
      have i1 := rd_inv (c := (cmd0 op)) (p := 103) (l := l) (by unfold L9; decide) k1
      rw [rr] at h
      simp only [Option.some.injEq, Prod.mk.injEq] at h
      obtain ⟨h1, h2⟩ := h
      subst h1 h2
      simp only [rdS_g, alC_g, bC_g, os_g] at i1
      refine ⟨by simp only [okA, List.all_cons, List.all_nil, rdS_g, alC_g, bC_g, os_g, cmd0], by simp only [List.foldl_cons, List.foldl_nil, rdS_g, alC_g, bC_g, os_g, cmd0], by simp only [rdS_g, alC_g, bC_g, os_g, cmd0], ?_⟩
      simp only [List.flatMap_cons, List.flatMap_nil, List.append_assoc, List.nil_append, rdS_g, alC_g, bC_g, os_g]
      rw [i1]
    · rw [rr, if_neg k1] at h; cases h
  · rw [e] at h ⊢
    by_cases k1 : rdO 112 l = true
    · rw [rr, if_pos k1] at h
      have i1 := rd_inv (c := (cmd0 op)) (p := 112) (l := l) (by unfold L9; decide) k1
      rw [rr] at h
      simp only [Option.some.injEq, Prod.mk.injEq] at h
      obtain ⟨h1, h2⟩ := h
      subst h1 h2
      simp only [rdS_p, alC_p, bC_p, os_p] at i1
      refine ⟨by simp only [okA, List.all_cons, List.all_nil, rdS_p, alC_p, bC_p, os_p, cmd0], by simp only [List.foldl_cons, List.foldl_nil, rdS_p, alC_p, bC_p, os_p, cmd0], by simp only [rdS_p, alC_p, bC_p, os_p, cmd0], ?_⟩
      simp only [List.flatMap_cons, List.flatMap_nil, List.append_assoc, List.nil_append, rdS_p, alC_p, bC_p, os_p]
      rw [i1]
    · rw [rr, if_neg k1] at h; cases h
  · rw [e] at h ⊢
    by_cases k1 : rdO 107 l = true
    · rw [rr, if_pos k1] at h
      have i1 := rd_inv (c := (cmd0 op)) (p := 107) (l := l) (by unfold L9; decide) k1
      by_cases k2 : rdO 99 (rdR 107 l) = true
      · rw [rr, if_pos k2] at h
        have i2 := rd_inv (c := (rdS (cmd0 op) 107 l)) (p := 99) (l := (rdR 107 l)) (by unfold L9; decide) k2
        rw [rr] at h
        simp only [Option.some.injEq, Prod.mk.injEq] at h
        obtain ⟨h1, h2⟩ := h
        subst h1 h2
        simp only [rdS_k, alC_k, bC_k, os_k, rdS_c, alC_c, bC_c, os_c] at i1
        simp only [rdS_k, alC_k, bC_k, os_k, rdS_c, alC_c, bC_c, os_c] at i2
        refine ⟨by simp only [okA, List.all_cons, List.all_nil, rdS_k, alC_k, bC_k, os_k, rdS_c, alC_c, bC_c, os_c, cmd0], by simp only [List.foldl_cons, List.foldl_nil, rdS_k, alC_k, bC_k, os_k, rdS_c, alC_c, bC_c, os_c, cmd0], by simp only [rdS_k, alC_k, bC_k, os_k, rdS_c, alC_c, bC_c, os_c, cmd0], ?_⟩
        simp only [List.flatMap_cons, List.flatMap_nil, List.append_assoc, List.nil_append, rdS_k, alC_k, bC_k, os_k, rdS_c, alC_c, bC_c, os_c]
        rw [i2, i1]
      · rw [rr, if_neg k2] at h; cases h
    · rw [rr, if_neg k1] at h; cases h
  · rw [e] at h ⊢
    rw [rr] at h
    simp only [Option.some.injEq, Prod.mk.injEq] at h
    obtain ⟨h1, h2⟩ := h
    subst h1 h2
    exact ⟨rfl, rfl, rfl, rfl⟩
/-- The real reading, by the reference. -/
theorem rdC_ref (code : UInt8) (l : List UInt8) : rdC code l = match refRead code l with | some c => (c, 0) | none => (cmd0 0, 6) := by
  have hf := rr_fold (needs (code.toNat : Int)) (cmd0 (code.toNat : Int)) l false (needs_L9 _)
  have hct := code.toNat_lt
  by_cases h1 : 1 ≤ code.toNat ∧ code.toNat ≤ 15
  · cases hr : rr (needs (code.toNat : Int)) (cmd0 (code.toNat : Int)) l with
    | none =>
      have hn : refRead code l = none := by unfold refRead; rw [hr]
      have hb : (rfold (code.toNat : Int) l).2.2 = true := hf.1 hr
      rw [hn, rdC_bad (by rintro ⟨_, _, h, _⟩; rw [hb] at h; cases h)]
    | some x =>
      obtain ⟨c', q⟩ := x
      obtain ⟨n1, n2, n3, n4⟩ := rr_nine hr
      have he : rfold (code.toNat : Int) l = (c', q, false || !okA (needs (code.toNat : Int)) (cmd0 (code.toNat : Int)) l) := hf.2 c' q hr
      rw [Bool.false_or] at he
      have hv : rvalid c' = okA (needs (code.toNat : Int)) (cmd0 (code.toNat : Int)) l := by
        have ho : c' = onlyC c' := by unfold onlyC; rw [n3]; exact n2.symm
        unfold rvalid
        rw [decide_eq_true (show 1 ≤ c'.op ∧ c'.op ≤ 15 by rw [n3]; omega), decide_eq_true ho, n3, n1]; rfl
      by_cases hq : q.length = 0 ∧ rvalid c' = true
      · have hn : refRead code l = some c' := by unfold refRead; rw [hr]; exact if_pos hq
        have ho := hq.2
        rw [hv] at ho
        have hq0 : q = [] := List.eq_nil_of_length_eq_zero hq.1
        rw [hn, rdC_ok h1.1 h1.2 (by rw [he, ho]; rfl) (by rw [he]; exact hq0), he]
      · have hn : refRead code l = none := by unfold refRead; rw [hr]; exact if_neg hq
        rw [hn]
        refine rdC_bad ?_
        rintro ⟨_, _, h3, h4⟩
        rw [he] at h3 h4
        have ho : rvalid c' = true := by rw [hv]; simpa using h3
        exact hq ⟨by rw [show q = [] from h4]; rfl, ho⟩
  · have hb : rdC code l = (cmd0 0, 6) := rdC_bad (by rintro ⟨a, b, _⟩; exact h1 ⟨a, b⟩)
    rw [hb]
    cases hr : refRead code l with
    | none => rfl
    | some c =>
      exfalso
      unfold refRead at hr
      split at hr
      · cases hr
      · rename_i c' q hrr
        split at hr
        · rename_i hq
          obtain ⟨_, _, n3, _⟩ := rr_nine hrr
          have := (rvalid_iff.1 hq.2).1
          omega
        · cases hr
/-- What the reference reads is valid, and was written so. -/
theorem ref_inv {code : UInt8} {l : List UInt8} {c : Cmd} (h : refRead code l = some c) : rvalid c = true ∧ codeOf c = code ∧ outC c = l := by
  unfold refRead at h
  split at h
  · cases h
  · rename_i c' q hrr
    split at h
    · rename_i hq
      cases h
      obtain ⟨n1, n2, n3, n4⟩ := rr_nine hrr
      have hq0 : q = [] := List.eq_nil_of_length_eq_zero hq.1
      refine ⟨hq.2, ?_, ?_⟩
      · unfold codeOf; rw [n3, Int.toNat_natCast, UInt8.ofNat_toNat]
      · unfold outC; rw [n3]; rw [hq0, List.append_nil] at n4; exact n4
    · cases h
theorem rdC_back {c : Cmd} (hlf : c.life < 18446744073709551616) (hvr : c.ver < 18446744073709551616) (hv : rvalid c = true) : rdC (codeOf c) (outC c) = (c, 0) := by
  obtain ⟨⟨h1, h2⟩, h3, ha⟩ := rvalid_iff.1 hv
  have hr := rfold_enc hlf hvr [] (needs c.op) (cmd0 c.op) false (needs_L9 c.op) ha
  rw [List.append_nil] at hr
  have hc : ((codeOf c).toNat : Int) = c.op := codeOf_nat h1 h2
  have hrf : rfold ((codeOf c).toNat : Int) (outC c) = (onlyC c, [], false) := by rw [hc]; exact hr
  rw [rdC_ok (by omega) (by omega) (by rw [hrf]) (by rw [hrf]), hrf]
  exact congrArg (fun x => (x, 0)) h3.symm
theorem ref_back {c : Cmd} (hlf : c.life < 18446744073709551616) (hvr : c.ver < 18446744073709551616) (hv : rvalid c = true) : refRead (codeOf c) (outC c) = some c := by
  have h1 := rdC_back hlf hvr hv
  rw [rdC_ref] at h1
  cases hr : refRead (codeOf c) (outC c) with
  | none => rw [hr] at h1; have h2 : (6 : Nat) = 0 := congrArg Prod.snd h1; cases h2
  | some c2 => rw [hr] at h1; exact congrArg some (congrArg Prod.fst h1)

end Go.Proofs.YtohnkjjjejnkpaaDoor
